/-
  Lemmas and contracts, joined.
-/
import Derived.Test.YtenpkmgbaajeeaaGreatCc1
import Derived.Test.YtenpkmgbaajeeaaGreatCp1
import Derived.Test.YtenpkmgbaajeeaaGreatCa2
set_option linter.unusedSimpArgs false
set_option linter.unusedVariables false
set_option linter.unnecessarySimpa false
/- Whether a code of steps is complete: the reference's, and both for any code. -/
namespace Go.Proofs.YtenpkmgbaajeeaaGreat
open Go.RowKit
set_option linter.unusedVariables false
set_option linter.unusedSimpArgs false

def thL (t : Nat → Int) (n : Nat) : List Int := (List.range n).map t
theorem thL_length (t : Nat → Int) (n : Nat) : (thL t n).length = n := by simp [thL]
theorem thL_succ (t : Nat → Int) (n : Nat) : thL t (n + 1) = thL t n ++ [t n] := by simp [thL, List.range_succ]
theorem thL_it {t : Nat → Int} {n i : Nat} (h : i < n) : it (thL t n) i = t i := by rw [it_in (by rw [thL_length]; exact h)]; simp [thL]
theorem mayS_or {d : Nat} {t : Nat → Int} {j v x : Nat} : (decide (∃ u, u < v ∧ mayS d t j u = true ∧ t (u + x) < (u : Int)) || (mayS d t j v && decide (t (v + x) < (v : Int)))) = decide (∃ u, u < v + 1 ∧ mayS d t j u = true ∧ t (u + x) < (u : Int)) := by
  rw [Bool.eq_iff_iff, Bool.or_eq_true, Bool.and_eq_true, decide_eq_true_eq, decide_eq_true_eq, decide_eq_true_eq]
  constructor
  · rintro (⟨u, h1, h2, h3⟩ | ⟨h1, h2⟩)
    · exact ⟨u, by omega, h2, h3⟩
    · exact ⟨v, by omega, h1, h2⟩
  · rintro ⟨u, h1, h2, h3⟩
    by_cases e : u = v
    · subst e; exact .inr ⟨h2, h3⟩
    · exact .inl ⟨u, by omega, h2, h3⟩
theorem mayS_fin {d : Nat} {t : Nat → Int} {j x : Nat} : decide (∃ u, u < d + 1 ∧ mayS d t j u = true ∧ t (u + x) < (u : Int)) = mayS d t (j + 1) x := by
  rw [mayS, decide_eq_decide]
  constructor
  · rintro ⟨v, hv, h1, h3⟩; exact ⟨v, by omega, h1, h3⟩
  · rintro ⟨v, hv, h1, h3⟩; exact ⟨v, by omega, h1, h3⟩
/-- What the next block may weigh, the first v weights of this one looked at. -/
def nextQ (d : Nat) (t : Nat → Int) (j v x : Nat) : Bool := decide (∃ u, u < v ∧ mayS d t j u = true ∧ t (u + x) < (u : Int))
end Go.Proofs.YtenpkmgbaajeeaaGreat

/- The law CodeTails: the walk. -/
namespace Go.Proofs.YtenpkmgbaajeeaaGreat
open Go.RowKit
set_option linter.unusedVariables false
set_option linter.unusedSimpArgs false

theorem frac2_open_ {W w' : World} {e : Ending} {r : (List Nat × List Nat) × Int} (h : Frac2 W w' e r) : ∃ X x Z z, e = .returned (.tuple #[.agg #[.slice X r.1.1.length x, .slice Z r.1.2.length z], .int .i64 r.2]) ∧ NR w' X x r.1.1 ∧ NR w' Z z r.1.2 ∧ Below W.heap.size W w' := by
  obtain ⟨v, rfl, X, x, Z, z, rfl, h1, h2, _, hb⟩ := h
  exact ⟨X, x, Z, z, rfl, h1.nr_, h2.nr_, hb⟩
set_option maxHeartbeats 8000000 in
set_option maxRecDepth 100000 in
theorem Complete_any (s : StV) (w : World) (h : StOK w s) :
    Calls Tryz.prog 61 #[.agg s.cs.toArray] w fun e w' => e = .returned (.tuple #[.bool (cmpSt s).1, .int .i64 (cmpSt s).2]) ∧ Below w.heap.size w w' := by
  cases hok : s.ok with
  | true =>
    have := complete_good s w h hok
    unfold cmpSt
    rw [hok]
    exact this
  | false =>
    have HCK : Hid (∀ W, Below w.heap.size w W → Calls Tryz.prog 21 #[.agg s.cs.toArray] W fun e w' => e = .returned (.int .i64 (ckSt s.ok)) ∧ Below W.heap.size W w') := fun W hW => CheckSteps_any s W (h.below hW)
    have hks := h.k16
    obtain ⟨W0, hW0⟩ : ∃ W : World, W = w.alloc (.cells s.cs.toArray 29) := ⟨_, rfl⟩
    have b0 : Hid (Below w.heap.size w W0) := by unfold Hid; rw [hW0]; exact alloc_below _ _
    have x0 : Hid (Blk W0 w.heap.size 29 s.cs.toArray) := by unfold Hid; rw [hW0]; exact Blk.new w _ _
    have HW0 := Lib.hid hW0
    have HIN := Lib.hid (StV.info (s := s) hks)
    have HS : Hid (cmpSt s = (false, 70)) := by unfold Hid cmpSt; rw [hok]; rfl
    rw [hok] at HCK
    rw [HS.out]
    generalize s.cs.toArray = cs at *
    clear hW0 h hks hok
    go_enter Tryz.func61, Tryz.ntmps61
    go_wp2_with (first
      | (rw [← HW0.out])
      | (refine wpList_load_row rfl 29 (.tmp 1) rfl (w.heap.size) rfl 29 cs (0, 0) _ x0.out Tryz.underlying29 rfl HIN.out ?_)
      | (go_at_call 21; (with_reducible refine (HCK.out _ b0.out).mono ?_); rintro e w1 ⟨rfl, hb⟩; have D1 := Lib.hid (bel_on b0.out hb); clear hb; simp only [ckSt]))
    go_ret2
    exact ⟨rfl, D1.out⟩
end Go.Proofs.YtenpkmgbaajeeaaGreat

/- The chapter's examples in plain words: the values. -/
namespace Go.Proofs.YtenpkmgbaajeeaaGreat
open Go.RowKit
set_option linter.unusedVariables false
set_option linter.unusedSimpArgs false

def lessV (A : Option Addr) (ca : Nat) (Bd : Option Addr) (cb : Nat) : StV := ⟨3, 2, zeroK, A, ca, (lowS 1 7).1, Bd, cb, (lowS 1 7).2⟩
def twoV (A : Option Addr) (ca : Nat) (Bd : Option Addr) (cb : Nat) : StV := ⟨2, 1, zeroK, A, ca, (lowS 0 1).1, Bd, cb, (lowS 0 1).2⟩
theorem ex_feas1 : feasS [[0, 1, 1], [0, 0, 1]] [0, 1, 0] = (false, 0) := by kernel_rfl
theorem ex_feas2 : feasS [[0, 1, 1], [0, 0, 1]] [0, 1] = (false, 71) := by kernel_rfl
theorem ex_tail0 : tailS 2 5 0 = (([], []), 2) := by kernel_rfl
theorem ex_tail1 : tailS 2 2 (-1) = (lowS 0 1, 0) := by kernel_rfl
theorem ex_tail2 : tailS 2 2 0 = (lowS 1 6, 0) := by kernel_rfl
theorem ex_tail3 : tailS 2 2 2 = (lowS 1 1, 0) := by kernel_rfl
theorem ex_is01 : isB (lowS 0 1).1 (lowS 0 1).2 0 0 1 = true := by kernel_rfl
theorem ex_is16 : isB (lowS 1 6).1 (lowS 1 6).2 0 1 6 = true := by kernel_rfl
theorem ex_is11 : isB (lowS 1 1).1 (lowS 1 1).2 0 1 1 = true := by kernel_rfl
theorem ex_is18 : isB (lowS 1 8).1 (lowS 1 8).2 0 1 8 = true := by kernel_rfl
theorem ex_thr0 (A : Option Addr) (ca : Nat) (B : Option Addr) (cb : Nat) : thrS (threeV A ca B cb) 0 = (-1, 0) := by kernel_rfl
theorem ex_thr1 (A : Option Addr) (ca : Nat) (B : Option Addr) (cb : Nat) : thrS (threeV A ca B cb) 1 = (-1, 0) := by kernel_rfl
theorem ex_thr2 (A : Option Addr) (ca : Nat) (B : Option Addr) (cb : Nat) : thrS (threeV A ca B cb) 2 = (0, 0) := by kernel_rfl
theorem ex_thr3 (A : Option Addr) (ca : Nat) (B : Option Addr) (cb : Nat) : thrS (threeV A ca B cb) 3 = (0, 0) := by kernel_rfl
theorem ex_thr4 (A : Option Addr) (ca : Nat) (B : Option Addr) (cb : Nat) : thrS (threeV A ca B cb) 4 = (1, 0) := by kernel_rfl
/-- The thresholds. -/
def thrW : List Int := [-1, -1, 0, 0, 1]
theorem ex_thr (A : Option Addr) (ca : Nat) (B : Option Addr) (cb : Nat) {k : Nat} (hk : k < 5) : thrS (threeV A ca B cb) (k : Int) = (it thrW k, 0) := by
  have : k = 0 ∨ k = 1 ∨ k = 2 ∨ k = 3 ∨ k = 4 := by omega
  rcases this with rfl | rfl | rfl | rfl | rfl
  · exact ex_thr0 A ca B cb
  · exact ex_thr1 A ca B cb
  · exact ex_thr2 A ca B cb
  · exact ex_thr3 A ca B cb
  · exact ex_thr4 A ca B cb
theorem ex_nm1 (A : Option Addr) (ca : Nat) (B : Option Addr) (cb : Nat) : sameI ((threeV A ca B cb).nmsW [2, 2]) [0] = true := by kernel_rfl
theorem ex_nm2 (A : Option Addr) (ca : Nat) (B : Option Addr) (cb : Nat) : sameI ((threeV A ca B cb).nmsW [0, 0]) [2] = true := by kernel_rfl
theorem ex_nm3 (A : Option Addr) (ca : Nat) (B : Option Addr) (cb : Nat) : sameI ((threeV A ca B cb).nmsW [1, 2]) [0] = true := by kernel_rfl
theorem ex_nm4 (A : Option Addr) (ca : Nat) (B : Option Addr) (cb : Nat) : sameI ((threeV A ca B cb).nmsW [0, 1]) [2] = true := by kernel_rfl
theorem ex_cmp (A : Option Addr) (ca : Nat) (B : Option Addr) (cb : Nat) : (threeV A ca B cb).cmp = true := by kernel_rfl
theorem ex_less (A : Option Addr) (ca : Nat) (B : Option Addr) (cb : Nat) : (lessV A ca B cb).ok = true ∧ (lessV A ca B cb).cmp = false := ⟨by kernel_rfl, by kernel_rfl⟩
theorem ex_two (A : Option Addr) (ca : Nat) (B : Option Addr) (cb : Nat) : (twoV A ca B cb).ok = true ∧ (twoV A ca B cb).cmp = true := ⟨by kernel_rfl, by kernel_rfl⟩
theorem ex_score1 : scS 2 4 [1, 2] [1, 0] [0, 2] = (-3, 0) := by kernel_rfl
theorem ex_score2 : scS 2 4 [1, 2] [1, 0] [1, 0] = (5, 0) := by kernel_rfl
theorem ex_ch1 : chanceS 2 4 [1, 2] [1, 1] 5 = (lowS 1 8, 0) := by kernel_rfl
theorem ex_ch2 : chanceS 2 4 [1, 2] [1, 1] (-2) = (lowS 5 8, 0) := by kernel_rfl
theorem ex_ch3 : chanceS 2 4 [1, 2] [1, 1] (-3) = (lowS 1 1, 0) := by kernel_rfl
theorem ex_ch4 : chanceS 2 4 [1, 2] [1, 1] 6 = (lowS 0 1, 0) := by kernel_rfl
theorem ex_bound : boundS 2 4 [1, 2] [1, 1] (lowS 1 9).1 (lowS 1 9).2 = (6, 0) := by kernel_rfl
end Go.Proofs.YtenpkmgbaajeeaaGreat

/- The law CodeExamples: the walk. -/
namespace Go.Proofs.YtenpkmgbaajeeaaGreat
open Go.RowKit
set_option linter.unusedVariables false
set_option linter.unusedSimpArgs false

theorem Blk.elsewhere {w : World} {g : Nat} {t : TypeId} {cs : Array Value} (h : Blk w g t cs) {g' : Nat} (hne : g ≠ g') (cs' : Array Value) : Blk (w.setRow g' cs') g t cs := (setRow_other w g' g cs' hne).trans h
theorem NF.elsewhere {B : Nat} {w : World} {A : Option Addr} {c : Nat} {l : List Nat} (h : NF B w A c l) {g : Nat} (hg : g < B) (cs : Array Value) : NF B (w.setRow g cs) A c l := by
  refine ⟨h.setRow_ hg cs, fun hne => ?_⟩
  obtain ⟨b, off, e, hB, hf⟩ := h.2 hne
  refine ⟨b, off, e, hB, fun i hi => ?_⟩
  rw [← hf i hi]
  exact World.frozen?_of_block (setRow_other w g b cs (by omega))
theorem nf_ret {W w' : World} {e : Ending} {r : (List Nat × List Nat) × Int} (h : Frac2 W w' e r) : ∃ X x Z z, e = .returned (.tuple #[.agg #[.slice X r.1.1.length x, .slice Z r.1.2.length z], .int .i64 r.2]) ∧ NF W.heap.size w' X x r.1.1 ∧ NF W.heap.size w' Z z r.1.2 ∧ Below W.heap.size W w' := by
  obtain ⟨v, rfl, X, x, Z, z, rfl, h1, h2, _, hb⟩ := h
  exact ⟨X, x, Z, z, rfl, h1, h2, hb⟩
theorem less_cells (A : Option Addr) (ca : Nat) (Bd : Option Addr) (cb : Nat) (X : Option Addr) (x : Nat) (Z : Option Addr) (z : Nat) : ((threeV A ca Bd cb).cs.toArray.setIfInBounds 18 (.slice X (lowS 1 7).1.length x)).setIfInBounds 19 (.slice Z (lowS 1 7).2.length z) = (lessV X x Z z).cs.toArray := by kernel_rfl
theorem two_cells (X : Option Addr) (x : Nat) (Z : Option Addr) (z : Nat) : (#[.int .i64 2, .int .i64 1, .int .u8 0, .int .u8 0, .int .u8 0, .int .u8 0, .int .u8 0, .int .u8 0, .int .u8 0, .int .u8 0, .int .u8 0, .int .u8 0, .int .u8 0, .int .u8 0, .int .u8 0, .int .u8 0, .int .u8 0, .int .u8 0, .slice X (lowS 0 1).1.length x, .slice Z (lowS 0 1).2.length z] : Array Value) = (twoV X x Z z).cs.toArray := by kernel_rfl
theorem three_size (A : Option Addr) (ca : Nat) (Bd : Option Addr) (cb : Nat) : (threeV A ca Bd cb).cs.toArray.size = 20 := by kernel_rfl
theorem NF.cellAway {B : Nat} {w : World} {A : Option Addr} {c : Nat} {l : List Nat} (h : NF B w A c l) {p : Addr} (hp : p.block < B) (u : Value) : NF B (w.setCell p u) A c l := by
  refine ⟨h.1.grown_ (fun hl b off e er => by
    have h1 := (h.fromB (Nat.le_refl _)) hl b off e
    have h2 : p.block = b := Option.some.inj er
    omega) (⟨rfl, rfl, rfl, by simp, fun k hk hne => Below.heap_setCell w p u k (by simpa using hne)⟩ : w.grownBy (w.setCell p u) (Option.some p.block)), fun hne => ?_⟩
  obtain ⟨b, off, e, hB, hf⟩ := h.2 hne
  refine ⟨b, off, e, hB, fun i hi => ?_⟩
  rw [← hf i hi]
  exact World.frozen?_of_block (Below.heap_setCell w p u b (by omega))
set_option maxHeartbeats 16000000 in
set_option maxRecDepth 1000000 in
theorem codeExamples_walk (w : World) : Calls Tryz.prog 14 #[] w fun e w' => e = .returned (.bool true) ∧ Below w.heap.size w w' := by
  have mixed : Tryz.prog.follows Departure.mixedOrders = true := by kernel_rfl
  have HT0 : Hid (∀ W, Calls Tryz.prog 55 #[.int .i64 2, .int .i64 5, .int .i64 0] W fun e w' => ∃ X x' Z z, e = .returned (.tuple #[.agg #[.slice X 0 x', .slice Z 0 z], .int .i64 2]) ∧ NR w' X x' [] ∧ NR w' Z z [] ∧ Below W.heap.size W w') := fun W => (Tail_any 2 5 0 W).mono fun e w' h => by
    rw [ex_tail0] at h
    exact frac2_open_ h
  have HT1 : Hid (∀ W, Calls Tryz.prog 55 #[.int .i64 2, .int .i64 2, .int .i64 (-1)] W fun e w' => ∃ X x' Z z, e = .returned (.tuple #[.agg #[.slice X (lowS 0 1).1.length x', .slice Z (lowS 0 1).2.length z], .int .i64 0]) ∧ NR w' X x' (lowS 0 1).1 ∧ NR w' Z z (lowS 0 1).2 ∧ Below W.heap.size W w') := fun W => (Tail_any 2 2 (-1) W).mono fun e w' h => by
    rw [ex_tail1] at h
    exact frac2_open_ h
  have HT2 : Hid (∀ W, Calls Tryz.prog 55 #[.int .i64 2, .int .i64 2, .int .i64 0] W fun e w' => ∃ X x' Z z, e = .returned (.tuple #[.agg #[.slice X (lowS 1 6).1.length x', .slice Z (lowS 1 6).2.length z], .int .i64 0]) ∧ NR w' X x' (lowS 1 6).1 ∧ NR w' Z z (lowS 1 6).2 ∧ Below W.heap.size W w') := fun W => (Tail_any 2 2 0 W).mono fun e w' h => by
    rw [ex_tail2] at h
    exact frac2_open_ h
  have HT3 : Hid (∀ W, Calls Tryz.prog 55 #[.int .i64 2, .int .i64 2, .int .i64 2] W fun e w' => ∃ X x' Z z, e = .returned (.tuple #[.agg #[.slice X (lowS 1 1).1.length x', .slice Z (lowS 1 1).2.length z], .int .i64 0]) ∧ NR w' X x' (lowS 1 1).1 ∧ NR w' Z z (lowS 1 1).2 ∧ Below W.heap.size W w') := fun W => (Tail_any 2 2 2 W).mono fun e w' h => by
    rw [ex_tail3] at h
    exact frac2_open_ h
  have HC1 : Hid (∀ A c Y W, IR W A c [1, 2] → BR W Y 2 [1, 1] → Calls Tryz.prog 28 #[.agg (scC 2 4 A 2 c zeroK).toArray, .slice Y 2 2, .int .i64 5] W fun e w' => ∃ X x' Z z, e = .returned (.tuple #[.agg #[.slice X (lowS 1 8).1.length x', .slice Z (lowS 1 8).2.length z], .int .i64 0]) ∧ NF W.heap.size w' X x' (lowS 1 8).1 ∧ NF W.heap.size w' Z z (lowS 1 8).2 ∧ Below W.heap.size W w') := fun A c Y W g1 g2 => (Chance_any 2 4 A c [1, 2] zeroK Y 2 [1, 1] 5 W (n := 2) (ny := 2) rfl rfl g1 g2 rfl).mono fun e w' h => by
      rw [ex_ch1] at h
      exact nf_ret h
  have HC2 : Hid (∀ A c Y W, IR W A c [1, 2] → BR W Y 2 [1, 1] → Calls Tryz.prog 28 #[.agg (scC 2 4 A 2 c zeroK).toArray, .slice Y 2 2, .int .i64 (-2)] W fun e w' => ∃ X x' Z z, e = .returned (.tuple #[.agg #[.slice X (lowS 5 8).1.length x', .slice Z (lowS 5 8).2.length z], .int .i64 0]) ∧ NF W.heap.size w' X x' (lowS 5 8).1 ∧ NF W.heap.size w' Z z (lowS 5 8).2 ∧ Below W.heap.size W w') := fun A c Y W g1 g2 => (Chance_any 2 4 A c [1, 2] zeroK Y 2 [1, 1] (-2) W (n := 2) (ny := 2) rfl rfl g1 g2 rfl).mono fun e w' h => by
      rw [ex_ch2] at h
      exact nf_ret h
  have HC3 : Hid (∀ A c Y W, IR W A c [1, 2] → BR W Y 2 [1, 1] → Calls Tryz.prog 28 #[.agg (scC 2 4 A 2 c zeroK).toArray, .slice Y 2 2, .int .i64 (-3)] W fun e w' => ∃ X x' Z z, e = .returned (.tuple #[.agg #[.slice X (lowS 1 1).1.length x', .slice Z (lowS 1 1).2.length z], .int .i64 0]) ∧ NF W.heap.size w' X x' (lowS 1 1).1 ∧ NF W.heap.size w' Z z (lowS 1 1).2 ∧ Below W.heap.size W w') := fun A c Y W g1 g2 => (Chance_any 2 4 A c [1, 2] zeroK Y 2 [1, 1] (-3) W (n := 2) (ny := 2) rfl rfl g1 g2 rfl).mono fun e w' h => by
      rw [ex_ch3] at h
      exact nf_ret h
  have HC4 : Hid (∀ A c Y W, IR W A c [1, 2] → BR W Y 2 [1, 1] → Calls Tryz.prog 28 #[.agg (scC 2 4 A 2 c zeroK).toArray, .slice Y 2 2, .int .i64 6] W fun e w' => ∃ X x' Z z, e = .returned (.tuple #[.agg #[.slice X (lowS 0 1).1.length x', .slice Z (lowS 0 1).2.length z], .int .i64 0]) ∧ NF W.heap.size w' X x' (lowS 0 1).1 ∧ NF W.heap.size w' Z z (lowS 0 1).2 ∧ Below W.heap.size W w') := fun A c Y W g1 g2 => (Chance_any 2 4 A c [1, 2] zeroK Y 2 [1, 1] 6 W (n := 2) (ny := 2) rfl rfl g1 g2 rfl).mono fun e w' h => by
      rw [ex_ch4] at h
      exact nf_ret h
  have HI01 : Hid (∀ X cx Z cz W, NR W X cx (lowS 0 1).1 → NR W Z cz (lowS 0 1).2 → Calls Tryz.prog 48 #[.agg #[.slice X (lowS 0 1).1.length cx, .slice Z (lowS 0 1).2.length cz], .int .i64 0, .int .u64 0, .int .u64 1] W fun e w' => e = .returned (.bool true) ∧ Below W.heap.size W w') := fun X cx Z cz W g1 g2 => by
      have := is_any X cx _ Z cz _ 0 0 1 W rfl rfl g1 g2 (by omega) (by omega) (by omega)
      rwa [ex_is01] at this
  have HI16 : Hid (∀ X cx Z cz W, NR W X cx (lowS 1 6).1 → NR W Z cz (lowS 1 6).2 → Calls Tryz.prog 48 #[.agg #[.slice X (lowS 1 6).1.length cx, .slice Z (lowS 1 6).2.length cz], .int .i64 0, .int .u64 1, .int .u64 6] W fun e w' => e = .returned (.bool true) ∧ Below W.heap.size W w') := fun X cx Z cz W g1 g2 => by
      have := is_any X cx _ Z cz _ 0 1 6 W rfl rfl g1 g2 (by omega) (by omega) (by omega)
      rwa [ex_is16] at this
  have HI11 : Hid (∀ X cx Z cz W, NR W X cx (lowS 1 1).1 → NR W Z cz (lowS 1 1).2 → Calls Tryz.prog 48 #[.agg #[.slice X (lowS 1 1).1.length cx, .slice Z (lowS 1 1).2.length cz], .int .i64 0, .int .u64 1, .int .u64 1] W fun e w' => e = .returned (.bool true) ∧ Below W.heap.size W w') := fun X cx Z cz W g1 g2 => by
      have := is_any X cx _ Z cz _ 0 1 1 W rfl rfl g1 g2 (by omega) (by omega) (by omega)
      rwa [ex_is11] at this
  have HI18 : Hid (∀ X cx Z cz W, NR W X cx (lowS 1 8).1 → NR W Z cz (lowS 1 8).2 → Calls Tryz.prog 48 #[.agg #[.slice X (lowS 1 8).1.length cx, .slice Z (lowS 1 8).2.length cz], .int .i64 0, .int .u64 1, .int .u64 8] W fun e w' => e = .returned (.bool true) ∧ Below W.heap.size W w') := fun X cx Z cz W g1 g2 => by
      have := is_any X cx _ Z cz _ 0 1 8 W rfl rfl g1 g2 (by omega) (by omega) (by omega)
      rwa [ex_is18] at this
  have HI58 : Hid (∀ X cx Z cz W, NR W X cx (lowS 5 8).1 → NR W Z cz (lowS 5 8).2 → Calls Tryz.prog 48 #[.agg #[.slice X (lowS 5 8).1.length cx, .slice Z (lowS 5 8).2.length cz], .int .i64 0, .int .u64 5, .int .u64 8] W fun e w' => e = .returned (.bool true) ∧ Below W.heap.size W w') := fun X cx Z cz W g1 g2 => by
      have := is_any X cx _ Z cz _ 0 5 8 W rfl rfl g1 g2 (by omega) (by omega) (by omega)
      rwa [val_is2] at this
  have HR17 : Hid (∀ W, Calls Tryz.prog 60 #[.int .u64 1, .int .u64 7] W fun e w' => ∃ X x' Z z, e = .returned (.agg #[.slice X (lowS 1 7).1.length x', .slice Z (lowS 1 7).2.length z]) ∧ NF W.heap.size w' X x' (lowS 1 7).1 ∧ NF W.heap.size w' Z z (lowS 1 7).2 ∧ Below W.heap.size W w') := fun W => (ratio_any 1 7 W (by omega) (by omega) (by omega)).mono fun e w' ⟨v, he, hf⟩ => by
      obtain ⟨X, x, Z, z, rfl, g1, g2, _, g3⟩ := hf
      exact ⟨X, x, Z, z, he, g1, g2, g3⟩
  have HR01 : Hid (∀ W, Calls Tryz.prog 60 #[.int .u64 0, .int .u64 1] W fun e w' => ∃ X x' Z z, e = .returned (.agg #[.slice X (lowS 0 1).1.length x', .slice Z (lowS 0 1).2.length z]) ∧ NR w' X x' (lowS 0 1).1 ∧ NR w' Z z (lowS 0 1).2 ∧ Below W.heap.size W w') := fun W => (ratio_any 0 1 W (by omega) (by omega) (by omega)).mono fun e w' ⟨v, he, hf⟩ => by
      obtain ⟨X, x, Z, z, rfl, g⟩ := frac_nr hf
      exact ⟨X, x, Z, z, he, g⟩
  have HR19 : Hid (∀ W, Calls Tryz.prog 60 #[.int .u64 1, .int .u64 9] W fun e w' => ∃ X x' Z z, e = .returned (.agg #[.slice X (lowS 1 9).1.length x', .slice Z (lowS 1 9).2.length z]) ∧ NR w' X x' (lowS 1 9).1 ∧ NR w' Z z (lowS 1 9).2 ∧ Below W.heap.size W w') := fun W => (ratio_any 1 9 W (by omega) (by omega) (by omega)).mono fun e w' ⟨v, he, hf⟩ => by
      obtain ⟨X, x, Z, z, rfl, g⟩ := frac_nr hf
      exact ⟨X, x, Z, z, he, g⟩
  have HBD : Hid (∀ A c Y X x' Z z W, IR W A c [1, 2] → BR W Y 2 [1, 1] → NR W X x' (lowS 1 9).1 → NR W Z z (lowS 1 9).2 → Calls Tryz.prog 31 #[.agg (scC 2 4 A 2 c zeroK).toArray, .slice Y 2 2, .agg #[.slice X (lowS 1 9).1.length x', .slice Z (lowS 1 9).2.length z]] W fun e w' => e = .returned (.tuple #[.int .i64 6, .int .i64 0]) ∧ Below W.heap.size W w') := fun A c Y X x' Z z W g1 g2 g3 g4 => by
      have := Bound_any 2 4 A c [1, 2] zeroK Y 2 [1, 1] X x' (lowS 1 9).1 Z z (lowS 1 9).2 W (n := 2) (ny := 2) rfl rfl rfl rfl g1 g2 rfl g3 g4
      rwa [ex_bound] at this
  have HLC : Hid (∀ A ca Bd cb X x Z z, ((threeV A ca Bd cb).cs.toArray.setIfInBounds 18 (.slice X (lowS 1 7).1.length x)).setIfInBounds 19 (.slice Z (lowS 1 7).2.length z) = (lessV X x Z z).cs.toArray) := less_cells
  have HLO : Hid (∀ X x Z z W, NR W X x (lowS 1 7).1 → NR W Z z (lowS 1 7).2 → StOK W (lessV X x Z z)) := fun X x Z z W g1 g2 => ⟨rfl, g1, g2⟩
  have HTB : Hid (∀ X x Z z, (#[.int .i64 2, .int .i64 1, .int .u8 0, .int .u8 0, .int .u8 0, .int .u8 0, .int .u8 0, .int .u8 0, .int .u8 0, .int .u8 0, .int .u8 0, .int .u8 0, .int .u8 0, .int .u8 0, .int .u8 0, .int .u8 0, .int .u8 0, .int .u8 0, .slice X (lowS 0 1).1.length x, .slice Z (lowS 0 1).2.length z] : Array Value) = (twoV X x Z z).cs.toArray) := two_cells
  have HTO : Hid (∀ X x Z z W, NR W X x (lowS 0 1).1 → NR W Z z (lowS 0 1).2 → StOK W (twoV X x Z z)) := fun X x Z z W g1 g2 => ⟨rfl, g1, g2⟩
  have HTH : Hid (∀ A ca B cb (k : Nat) W, k < 5 → StOK W (threeV A ca B cb) → Calls Tryz.prog 50 #[.agg (threeV A ca B cb).cs.toArray, .int .i64 (k : Int)] W fun e w' => e = .returned (.tuple #[.int .i64 (it thrW k), .int .i64 0]) ∧ Below W.heap.size W w') := fun A ca B cb k W hk g => by
    have := Threshold_any (threeV A ca B cb) (k : Int) W g
    rwa [ex_thr A ca B cb hk] at this
  have HCO3 : Hid (∀ A ca B cb W, StOK W (threeV A ca B cb) → Calls Tryz.prog 61 #[.agg (threeV A ca B cb).cs.toArray] W fun e w' => e = .returned (.tuple #[.bool true, .int .i64 0]) ∧ Below W.heap.size W w') := fun A ca B cb W g => by
      have := complete_good (threeV A ca B cb) W g (val_ok _ _ _ _)
      rwa [ex_cmp] at this
  have HCOL : Hid (∀ A ca B cb W, StOK W (lessV A ca B cb) → Calls Tryz.prog 61 #[.agg (lessV A ca B cb).cs.toArray] W fun e w' => e = .returned (.tuple #[.bool false, .int .i64 0]) ∧ Below W.heap.size W w') := fun A ca B cb W g => by
      have := complete_good (lessV A ca B cb) W g (ex_less _ _ _ _).1
      rwa [(ex_less _ _ _ _).2] at this
  have HCOT : Hid (∀ A ca B cb W, StOK W (twoV A ca B cb) → Calls Tryz.prog 61 #[.agg (twoV A ca B cb).cs.toArray] W fun e w' => e = .returned (.tuple #[.bool true, .int .i64 0]) ∧ Below W.heap.size W w') := fun A ca B cb W g => by
      have := complete_good (twoV A ca B cb) W g (ex_two _ _ _ _).1
      rwa [(ex_two _ _ _ _).2] at this
  have HN1 : Hid (∀ A ca B cb P Q W, StOK W (threeV A ca B cb) → IR W P 2 [2, 2] → IR W Q 1 [0] → Calls Tryz.prog 59 #[.agg (threeV A ca B cb).cs.toArray, .slice P 2 2, .slice Q 1 1] W fun e w' => e = .returned (.bool true) ∧ Below W.heap.size W w') := fun A ca B cb P Q W g1 g2 g3 => by
      have := lawNames_any (threeV A ca B cb) P 2 [2, 2] Q 1 [0] W g1 (val_ok _ _ _ _) (mw := 2) (nq := 1) rfl rfl rfl (fun b hb => by
        have hb2 : b = 0 ∨ b = 1 := by omega
        rcases hb2 with rfl | rfl <;> simp [threeV]) g2 g3
      rwa [ex_nm1] at this
  have HN2 : Hid (∀ A ca B cb P Q W, StOK W (threeV A ca B cb) → IR W P 2 [0, 0] → IR W Q 1 [2] → Calls Tryz.prog 59 #[.agg (threeV A ca B cb).cs.toArray, .slice P 2 2, .slice Q 1 1] W fun e w' => e = .returned (.bool true) ∧ Below W.heap.size W w') := fun A ca B cb P Q W g1 g2 g3 => by
      have := lawNames_any (threeV A ca B cb) P 2 [0, 0] Q 1 [2] W g1 (val_ok _ _ _ _) (mw := 2) (nq := 1) rfl rfl rfl (fun b hb => by
        have hb2 : b = 0 ∨ b = 1 := by omega
        rcases hb2 with rfl | rfl <;> simp [threeV]) g2 g3
      rwa [ex_nm2] at this
  have HN3 : Hid (∀ A ca B cb P Q W, StOK W (threeV A ca B cb) → IR W P 2 [1, 2] → IR W Q 1 [0] → Calls Tryz.prog 59 #[.agg (threeV A ca B cb).cs.toArray, .slice P 2 2, .slice Q 1 1] W fun e w' => e = .returned (.bool true) ∧ Below W.heap.size W w') := fun A ca B cb P Q W g1 g2 g3 => by
      have := lawNames_any (threeV A ca B cb) P 2 [1, 2] Q 1 [0] W g1 (val_ok _ _ _ _) (mw := 2) (nq := 1) rfl rfl rfl (fun b hb => by
        have hb2 : b = 0 ∨ b = 1 := by omega
        rcases hb2 with rfl | rfl <;> simp [threeV]) g2 g3
      rwa [ex_nm3] at this
  have HN4 : Hid (∀ A ca B cb P Q W, StOK W (threeV A ca B cb) → IR W P 2 [0, 1] → IR W Q 1 [2] → Calls Tryz.prog 59 #[.agg (threeV A ca B cb).cs.toArray, .slice P 2 2, .slice Q 1 1] W fun e w' => e = .returned (.bool true) ∧ Below W.heap.size W w') := fun A ca B cb P Q W g1 g2 g3 => by
      have := lawNames_any (threeV A ca B cb) P 2 [0, 1] Q 1 [2] W g1 (val_ok _ _ _ _) (mw := 2) (nq := 1) rfl rfl rfl (fun b hb => by
        have hb2 : b = 0 ∨ b = 1 := by omega
        rcases hb2 with rfl | rfl <;> simp [threeV]) g2 g3
      rwa [ex_nm4] at this
  have HS1 : Hid (∀ A c P Q W, IR W A c [1, 2] → BR W P 2 [1, 0] → BR W Q 2 [0, 2] → Calls Tryz.prog 47 #[.agg (scC 2 4 A 2 c zeroK).toArray, .slice P 2 2, .slice Q 2 2] W fun e w' => e = .returned (.tuple #[.int .i64 (-3), .int .i64 0]) ∧ Below W.heap.size W w') := fun A c P Q W g1 g2 g3 => by
      have := Score_any 2 4 A c [1, 2] zeroK P 2 [1, 0] Q 2 [0, 2] W (n := 2) (nv := 2) (ny := 2) rfl rfl rfl g1 g2 g3 rfl
      rwa [ex_score1] at this
  have HS2 : Hid (∀ A c P Q W, IR W A c [1, 2] → BR W P 2 [1, 0] → BR W Q 2 [1, 0] → Calls Tryz.prog 47 #[.agg (scC 2 4 A 2 c zeroK).toArray, .slice P 2 2, .slice Q 2 2] W fun e w' => e = .returned (.tuple #[.int .i64 5, .int .i64 0]) ∧ Below W.heap.size W w') := fun A c P Q W g1 g2 g3 => by
      have := Score_any 2 4 A c [1, 2] zeroK P 2 [1, 0] Q 2 [1, 0] W (n := 2) (nv := 2) (ny := 2) rfl rfl rfl g1 g2 g3 rfl
      rwa [ex_score2] at this
  obtain ⟨m01, hm01⟩ : ∃ q, (lowS 0 1).1.length = q := ⟨_, rfl⟩
  obtain ⟨n01, hn01⟩ : ∃ q, (lowS 0 1).2.length = q := ⟨_, rfl⟩
  rw [hm01, hn01] at HT1 HC4 HI01 HR01 HTB
  generalize lowS 0 1 = q01 at HT1 HC4 HI01 HR01 HTO
  clear hm01 hn01
  obtain ⟨m16, hm16⟩ : ∃ q, (lowS 1 6).1.length = q := ⟨_, rfl⟩
  obtain ⟨n16, hn16⟩ : ∃ q, (lowS 1 6).2.length = q := ⟨_, rfl⟩
  rw [hm16, hn16] at HT2 HI16
  generalize lowS 1 6 = q16 at HT2 HI16
  clear hm16 hn16
  obtain ⟨m11, hm11⟩ : ∃ q, (lowS 1 1).1.length = q := ⟨_, rfl⟩
  obtain ⟨n11, hn11⟩ : ∃ q, (lowS 1 1).2.length = q := ⟨_, rfl⟩
  rw [hm11, hn11] at HT3 HC3 HI11
  generalize lowS 1 1 = q11 at HT3 HC3 HI11
  clear hm11 hn11
  obtain ⟨m18, hm18⟩ : ∃ q, (lowS 1 8).1.length = q := ⟨_, rfl⟩
  obtain ⟨n18, hn18⟩ : ∃ q, (lowS 1 8).2.length = q := ⟨_, rfl⟩
  rw [hm18, hn18] at HC1 HI18
  generalize lowS 1 8 = q18 at HC1 HI18
  clear hm18 hn18
  obtain ⟨m58, hm58⟩ : ∃ q, (lowS 5 8).1.length = q := ⟨_, rfl⟩
  obtain ⟨n58, hn58⟩ : ∃ q, (lowS 5 8).2.length = q := ⟨_, rfl⟩
  rw [hm58, hn58] at HC2 HI58
  generalize lowS 5 8 = q58 at HC2 HI58
  clear hm58 hn58
  obtain ⟨m17, hm17⟩ : ∃ q, (lowS 1 7).1.length = q := ⟨_, rfl⟩
  obtain ⟨n17, hn17⟩ : ∃ q, (lowS 1 7).2.length = q := ⟨_, rfl⟩
  rw [hm17, hn17] at HR17 HLC
  generalize lowS 1 7 = q17 at HR17 HLO
  clear hm17 hn17
  obtain ⟨m19, hm19⟩ : ∃ q, (lowS 1 9).1.length = q := ⟨_, rfl⟩
  obtain ⟨n19, hn19⟩ : ∃ q, (lowS 1 9).2.length = q := ⟨_, rfl⟩
  rw [hm19, hn19] at HR19 HBD
  generalize lowS 1 9 = q19 at HR19 HBD
  clear hm19 hn19
  have b0 : Hid (Below w.heap.size w w) := Below.refl _ _
  obtain ⟨a1, ha1⟩ : ∃ W, W = w.alloc (.cells #[.int .u8 0, .int .u8 1, .int .u8 1] 5) := ⟨_, rfl⟩
  obtain ⟨b1, hb1⟩ : ∃ W, W = a1.alloc (.cells #[.int .u8 0, .int .u8 0, .int .u8 1] 5) := ⟨_, rfl⟩
  obtain ⟨d1, hd1⟩ : ∃ W, W = (b1.alloc (.cells #[.slice (some ⟨w.heap.size, 0, none⟩) 3 3, .slice (some ⟨a1.heap.size, 0, none⟩) 3 3] 30)).alloc (.cells #[.int .u8 0, .int .u8 1, .int .u8 0] 5) := ⟨_, rfl⟩
  have F1 := Lib.hid (words_lit w [0, 1, 0] (n := 3) rfl (by omega) ha1 hb1 hd1)
  have HA1 := Lib.hid ha1
  have HB1 := Lib.hid hb1
  have HD1 := Lib.hid hd1
  have HF1 : Hid (∀ r, feasS [[0, 1, 1], [0, 0, 1]] [0, 1, 0] = r → Calls Tryz.prog 45 #[.slice (some ⟨b1.heap.size, 0, none⟩) 2 2, .slice (some ⟨b1.heap.size + 1, 0, none⟩) 3 3] d1 fun e w' => e = .returned (.tuple #[.bool r.1, .int .i64 r.2]) ∧ Below d1.heap.size d1 w') := fun r hr => by
    obtain ⟨f1, f2, f3⟩ := F1.out
    have := Feasible_any (some ⟨b1.heap.size, 0, none⟩) 2 _ (some ⟨b1.heap.size + 1, 0, none⟩) 3 [0, 1, 0] d1 (n := 2) (m := 3) rfl rfl f1 f2
    rw [← hr]
    exact this
  clear ha1 hb1 hd1
  go_enter Tryz.func14, Tryz.ntmps14
  go_wp2_with (first | (rw [← HA1.out]) | (rw [← HB1.out]) | (rw [← HD1.out]))
  refine (HF1.out _ ex_feas1).mono ?_
  rintro e w1 ⟨rfl, hb1⟩
  have K1 : Hid (Below w.heap.size w w1) := bel_on F1.out.2.2 hb1
  have RW1 := Lib.hid (F1.out.1.below hb1)
  clear hb1 HF1 HA1 HB1 HD1 F1
  obtain ⟨w2, hw2⟩ : ∃ W, W = w1.alloc (.cells #[.int .u8 0, .int .u8 1] 5) := ⟨_, rfl⟩
  obtain ⟨i2, d2⟩ := bytes_lit1 w1 [0, 1] (na := 2) rfl (by omega) hw2
  have Kw2 : Hid (Below w.heap.size w w2) := bel_on K1.out d2
  have RW_w2 := Lib.hid (RW1.out.below d2)
  clear RW1
  have Hw2 := Lib.hid hw2
  have HF2 := Lib.hid (Feasible_any (some ⟨b1.heap.size, 0, none⟩) 2 _ (some ⟨w1.heap.size, 0, none⟩) 2 [0, 1] w2 (n := 2) (m := 2) rfl rfl RW_w2.out i2)
  simp only [List.map_cons, List.map_nil] at HF2
  rw [ex_feas2] at HF2
  clear i2 d2 hw2
  clear RW_w2
  go_wp2_with (rw [← Hw2.out])
  refine (HF2.out).mono ?_
  rintro e w3 ⟨rfl, hb3⟩
  have K3 : Hid (Below w.heap.size w w3) := bel_on Kw2.out hb3
  clear hb3
  clear HF2 Hw2
  go_wp2_with fail
  refine (HT0.out _).mono ?_
  rintro e w4 ⟨X4, x4, Z4, z4, rfl, gx4, gz4, hb4⟩
  have HB4 := Lib.hid (bel_on K3.out hb4).size
  obtain ⟨w4b, hw4⟩ : ∃ W, W = w4.alloc (.cells #[.slice X4 0 x4, .slice Z4 0 z4] 27) := ⟨_, rfl⟩
  have d4 : Below w4.heap.size w4 w4b := by rw [hw4]; exact alloc_bel _ _
  have HB4 := Lib.hid (bel_on K3.out hb4).size
  have hbb4 := bel_on hb4 d4
  have K4 : Hid (Below w.heap.size w w4b) := bel_on K3.out hbb4
  have T4 : Hid (Blk w4b w4.heap.size 27 #[.slice X4 0 x4, .slice Z4 0 z4]) := by unfold Hid; rw [hw4]; exact Blk.new _ _ _
  have GX4 := Lib.hid (gx4.below d4)
  have GZ4 := Lib.hid (gz4.below d4)
  have HW4 := Lib.hid hw4
  clear hw4 d4 hbb4 hb4 gx4 gz4
  clear T4 GX4 GZ4
  go_wp2_with (rw [← HW4.out])
  clear HW4
  refine (alive_any _).mono ?_
  rintro e w5 ⟨rfl, hb5⟩
  have K5 : Hid (Below w.heap.size w w5) := bel_on K4.out hb5
  clear hb5
  go_wp2_with fail
  refine (HT1.out _).mono ?_
  rintro e w6 ⟨X6, x6, Z6, z6, rfl, gx6, gz6, hb6⟩
  have HB6 := Lib.hid (bel_on K5.out hb6).size
  obtain ⟨w6b, hw6⟩ : ∃ W, W = w6.alloc (.cells #[.slice X6 m01 x6, .slice Z6 n01 z6] 27) := ⟨_, rfl⟩
  have d6 : Below w6.heap.size w6 w6b := by rw [hw6]; exact alloc_bel _ _
  have HB6 := Lib.hid (bel_on K5.out hb6).size
  have hbb6 := bel_on hb6 d6
  have K6 : Hid (Below w.heap.size w w6b) := bel_on K5.out hbb6
  have T6 : Hid (Blk w6b w6.heap.size 27 #[.slice X6 m01 x6, .slice Z6 n01 z6]) := by unfold Hid; rw [hw6]; exact Blk.new _ _ _
  have GX6 := Lib.hid (gx6.below d6)
  have GZ6 := Lib.hid (gz6.below d6)
  have HW6 := Lib.hid hw6
  clear hw6 d6 hbb6 hb6 gx6 gz6
  go_wp2_with (rw [← HW6.out])
  clear HW6
  refine (HT2.out _).mono ?_
  rintro e w7 ⟨X7, x7, Z7, z7, rfl, gx7, gz7, hb7⟩
  have HB7 := Lib.hid (bel_on K6.out hb7).size
  have O67 := Lib.hid (Nat.lt_of_lt_of_le T6.out.lt hb7.size)
  obtain ⟨w7b, hw7⟩ : ∃ W, W = w7.alloc (.cells #[.slice X7 m16 x7, .slice Z7 n16 z7] 27) := ⟨_, rfl⟩
  have d7 : Below w7.heap.size w7 w7b := by rw [hw7]; exact alloc_bel _ _
  have HB7 := Lib.hid (bel_on K6.out hb7).size
  have hbb7 := bel_on hb7 d7
  have K7 : Hid (Below w.heap.size w w7b) := bel_on K6.out hbb7
  have T7 : Hid (Blk w7b w7.heap.size 27 #[.slice X7 m16 x7, .slice Z7 n16 z7]) := by unfold Hid; rw [hw7]; exact Blk.new _ _ _
  have GX7 := Lib.hid (gx7.below d7)
  have GZ7 := Lib.hid (gz7.below d7)
  have T6_7 := Lib.hid (T6.out.below' hbb7)
  have GX6_7 := Lib.hid (GX6.out.below hbb7)
  have GZ6_7 := Lib.hid (GZ6.out.below hbb7)
  clear T6 GX6 GZ6
  have HW7 := Lib.hid hw7
  clear hw7 d7 hbb7 hb7 gx7 gz7
  go_wp2_with (rw [← HW7.out])
  clear HW7
  refine (HT3.out _).mono ?_
  rintro e w8 ⟨X8, x8, Z8, z8, rfl, gx8, gz8, hb8⟩
  have HB8 := Lib.hid (bel_on K7.out hb8).size
  have O78 := Lib.hid (Nat.lt_of_lt_of_le T7.out.lt hb8.size)
  obtain ⟨w8b, hw8⟩ : ∃ W, W = w8.alloc (.cells #[.slice X8 m11 x8, .slice Z8 n11 z8] 27) := ⟨_, rfl⟩
  have d8 : Below w8.heap.size w8 w8b := by rw [hw8]; exact alloc_bel _ _
  have HB8 := Lib.hid (bel_on K7.out hb8).size
  have hbb8 := bel_on hb8 d8
  have K8 : Hid (Below w.heap.size w w8b) := bel_on K7.out hbb8
  have T8 : Hid (Blk w8b w8.heap.size 27 #[.slice X8 m11 x8, .slice Z8 n11 z8]) := by unfold Hid; rw [hw8]; exact Blk.new _ _ _
  have GX8 := Lib.hid (gx8.below d8)
  have GZ8 := Lib.hid (gz8.below d8)
  have T6_8 := Lib.hid (T6_7.out.below' hbb8)
  have GX6_8 := Lib.hid (GX6_7.out.below hbb8)
  have GZ6_8 := Lib.hid (GZ6_7.out.below hbb8)
  have T7_8 := Lib.hid (T7.out.below' hbb8)
  have GX7_8 := Lib.hid (GX7.out.below hbb8)
  have GZ7_8 := Lib.hid (GZ7.out.below hbb8)
  clear T6_7 GX6_7 GZ6_7 T7 GX7 GZ7
  have HW8 := Lib.hid hw8
  clear hw8 d8 hbb8 hb8 gx8 gz8
  have q0 := T6_8.out.cell 0
  have q1 := T6_8.out.cell 1
  go_wp2_with (rw [← HW8.out])
  clear HW8 q0 q1
  refine (HI01.out _ _ _ _ _ GX6_8.out GZ6_8.out).mono ?_
  rintro e w9 ⟨rfl, hb9⟩
  have K9 : Hid (Below w.heap.size w w9) := bel_on K8.out hb9
  have T6_9 := Lib.hid (T6_8.out.below' hb9)
  have GX6_9 := Lib.hid (GX6_8.out.below hb9)
  have GZ6_9 := Lib.hid (GZ6_8.out.below hb9)
  have T7_9 := Lib.hid (T7_8.out.below' hb9)
  have GX7_9 := Lib.hid (GX7_8.out.below hb9)
  have GZ7_9 := Lib.hid (GZ7_8.out.below hb9)
  have T8_9 := Lib.hid (T8.out.below' hb9)
  have GX8_9 := Lib.hid (GX8.out.below hb9)
  have GZ8_9 := Lib.hid (GZ8.out.below hb9)
  clear T6_8 GX6_8 GZ6_8 T7_8 GX7_8 GZ7_8 T8 GX8 GZ8
  clear hb9
  clear GX6_9 GZ6_9
  have q0 := T7_9.out.cell 0
  have q1 := T7_9.out.cell 1
  go_wp2_with fail
  clear q0 q1
  refine (HI16.out _ _ _ _ _ GX7_9.out GZ7_9.out).mono ?_
  rintro e w10 ⟨rfl, hb10⟩
  have K10 : Hid (Below w.heap.size w w10) := bel_on K9.out hb10
  have T6_10 := Lib.hid (T6_9.out.below' hb10)
  have T7_10 := Lib.hid (T7_9.out.below' hb10)
  have GX7_10 := Lib.hid (GX7_9.out.below hb10)
  have GZ7_10 := Lib.hid (GZ7_9.out.below hb10)
  have T8_10 := Lib.hid (T8_9.out.below' hb10)
  have GX8_10 := Lib.hid (GX8_9.out.below hb10)
  have GZ8_10 := Lib.hid (GZ8_9.out.below hb10)
  clear T6_9 T7_9 GX7_9 GZ7_9 T8_9 GX8_9 GZ8_9
  clear hb10
  clear GX7_10 GZ7_10
  have q0 := T8_10.out.cell 0
  have q1 := T8_10.out.cell 1
  go_wp2_with fail
  clear q0 q1
  refine (HI11.out _ _ _ _ _ GX8_10.out GZ8_10.out).mono ?_
  rintro e w11 ⟨rfl, hb11⟩
  have K11 : Hid (Below w.heap.size w w11) := bel_on K10.out hb11
  have T6_11 := Lib.hid (T6_10.out.below' hb11)
  have T7_11 := Lib.hid (T7_10.out.below' hb11)
  have T8_11 := Lib.hid (T8_10.out.below' hb11)
  have GX8_11 := Lib.hid (GX8_10.out.below hb11)
  have GZ8_11 := Lib.hid (GZ8_10.out.below hb11)
  clear T6_10 T7_10 T8_10 GX8_10 GZ8_10
  clear hb11
  clear GX8_11 GZ8_11
  obtain ⟨w12, hw12⟩ : ∃ W, W = w11.alloc (.cells #[.int .i64 (-1), .int .i64 (-1), .int .i64 0, .int .i64 0, .int .i64 1] 3) := ⟨_, rfl⟩
  obtain ⟨i12, d12⟩ := ints_lit1 w11 thrW (na := 5) rfl (by omega) (by simp [thrW]) hw12
  have Kw12 : Hid (Below w.heap.size w w12) := bel_on K11.out d12
  have T6_w12 := Lib.hid (T6_11.out.below' d12)
  have T7_w12 := Lib.hid (T7_11.out.below' d12)
  have T8_w12 := Lib.hid (T8_11.out.below' d12)
  clear T6_11 T7_11 T8_11
  have Hw12 := Lib.hid hw12
  have HWANT := Lib.hid i12
  clear i12 d12 hw12
  go_wp2_with (rw [← Hw12.out])
  clear Hw12
  go_loopw [12] (fun vk wr => ∃ k : Nat, k ≤ 5 ∧ vk = .int .i64 (k : Int) ∧ Below w12.heap.size w12 wr) (fun vk _ => 5 - (intOf vk).toNat)
  case atStart => exact ⟨0, by omega, rfl, Below.refl _ _⟩
  case round =>
    obtain ⟨k, hk, rfl, hbel⟩ := hrel
    obtain ⟨wl, hwl⟩ : ∃ W, W = wr := ⟨_, rfl⟩
    subst hwl
    by_cases hk5 : k < 5
    · have hki : (k : Int) < 5 := by omega
      have hk0 : (0 : Int) ≤ k := by omega
      go_wp2_with fail
      refine (three_any _).mono ?_
      rintro e w13 ⟨⟨A13, c13, B13, e13, rfl, hs13⟩, hb13⟩
      have HT13 := Lib.hid (HTH.out A13 c13 B13 e13 k w13 hk5 hs13)
      have K13 := Lib.hid (bel_on hbel hb13)
      generalize (threeV A13 c13 B13 e13).cs.toArray = cs13 at *
      clear hb13 hs13
      go_wp2_with fail
      refine HT13.out.mono ?_
      rintro e w14 ⟨rfl, hb14⟩
      have K14 := Lib.hid (bel_on K13.out hb14)
      obtain ⟨pw, ow, ew, -, cw⟩ := (HWANT.out.below K14.out).at_ (i := k) hk5
      injection ew with ew
      injection ew with e1 e2
      subst e1 e2
      obtain ⟨z, hz⟩ : ∃ z, it thrW k = z := ⟨_, rfl⟩
      rw [Nat.zero_add] at cw
      rw [hz] at cw ⊢
      clear hb14 HT13 hz hk5
      have hzz : ¬ (z ≠ z) := by simp
      have tz1 : (z != z) = false := by simp
      have tz2 : decide (z ≠ z) = false := by simp
      have tz3 : (z == z) = true := by simp
      go_wp2_with fail
      go_roundw
      case rel => exact ⟨k + 1, by omega, by go_num, K14.out⟩
      case measure => simp [intOf]; omega
    · obtain rfl : k = 5 := by omega
      have hx5 : ¬ ((5 : Int) < 5) := by omega
      have KL : Hid (Below w.heap.size w wl) := bel_on Kw12.out hbel
      have T6_L := Lib.hid (T6_w12.out.below' hbel)
      have T7_L := Lib.hid (T7_w12.out.below' hbel)
      have T8_L := Lib.hid (T8_w12.out.below' hbel)
      clear T6_w12 T7_w12 T8_w12
      clear HTH HWANT
      go_wp2_with fail
      refine (three_any _).mono ?_
      rintro e w20 ⟨⟨A20, c20, B20, e20, rfl, hs20⟩, hb20⟩
      have K20 : Hid (Below w.heap.size w w20) := bel_on KL.out hb20
      have T6_20 := Lib.hid (T6_L.out.below' hb20)
      have T7_20 := Lib.hid (T7_L.out.below' hb20)
      have T8_20 := Lib.hid (T8_L.out.below' hb20)
      clear T6_L T7_L T8_L
      clear hb20
      obtain ⟨w21, hw21⟩ : ∃ W, W = (w20.alloc (.cells #[.int .i64 2, .int .i64 2] 3)).alloc (.cells #[.int .i64 0] 3) := ⟨_, rfl⟩
      obtain ⟨i1, i2, d21⟩ := ints_lit2 w20 [2, 2] [0] (na := 2) (nb := 1) rfl rfl (by omega) (by omega) (by simp) (by simp) hw21
      have Kw21 : Hid (Below w.heap.size w w21) := bel_on K20.out d21
      have T6_w21 := Lib.hid (T6_20.out.below' d21)
      have T7_w21 := Lib.hid (T7_20.out.below' d21)
      have T8_w21 := Lib.hid (T8_20.out.below' d21)
      clear T6_20 T7_20 T8_20
      have Hw21 := Lib.hid hw21
      have HNC := Lib.hid (HN1.out A20 c20 B20 e20 _ _ w21 (hs20.below d21) i1 i2)
      generalize (threeV A20 c20 B20 e20).cs.toArray = cs20 at *
      clear i1 i2 d21 hw21 hs20 HN1
      go_wp2_with (rw [← Hw21.out])
      clear Hw21
      refine (HNC.out).mono ?_
      rintro e w22 ⟨rfl, hb22⟩
      have K22 : Hid (Below w.heap.size w w22) := bel_on Kw21.out hb22
      have T6_22 := Lib.hid (T6_w21.out.below' hb22)
      have T7_22 := Lib.hid (T7_w21.out.below' hb22)
      have T8_22 := Lib.hid (T8_w21.out.below' hb22)
      clear T6_w21 T7_w21 T8_w21
      clear hb22
      clear HNC
      go_wp2_with fail
      refine (three_any _).mono ?_
      rintro e w23 ⟨⟨A23, c23, B23, e23, rfl, hs23⟩, hb23⟩
      have K23 : Hid (Below w.heap.size w w23) := bel_on K22.out hb23
      have T6_23 := Lib.hid (T6_22.out.below' hb23)
      have T7_23 := Lib.hid (T7_22.out.below' hb23)
      have T8_23 := Lib.hid (T8_22.out.below' hb23)
      clear T6_22 T7_22 T8_22
      clear hb23
      obtain ⟨w24, hw24⟩ : ∃ W, W = (w23.alloc (.cells #[.int .i64 0, .int .i64 0] 3)).alloc (.cells #[.int .i64 2] 3) := ⟨_, rfl⟩
      obtain ⟨i1, i2, d24⟩ := ints_lit2 w23 [0, 0] [2] (na := 2) (nb := 1) rfl rfl (by omega) (by omega) (by simp) (by simp) hw24
      have Kw24 : Hid (Below w.heap.size w w24) := bel_on K23.out d24
      have T6_w24 := Lib.hid (T6_23.out.below' d24)
      have T7_w24 := Lib.hid (T7_23.out.below' d24)
      have T8_w24 := Lib.hid (T8_23.out.below' d24)
      clear T6_23 T7_23 T8_23
      have Hw24 := Lib.hid hw24
      have HNC := Lib.hid (HN2.out A23 c23 B23 e23 _ _ w24 (hs23.below d24) i1 i2)
      generalize (threeV A23 c23 B23 e23).cs.toArray = cs23 at *
      clear i1 i2 d24 hw24 hs23 HN2
      go_wp2_with (rw [← Hw24.out])
      clear Hw24
      refine (HNC.out).mono ?_
      rintro e w25 ⟨rfl, hb25⟩
      have K25 : Hid (Below w.heap.size w w25) := bel_on Kw24.out hb25
      have T6_25 := Lib.hid (T6_w24.out.below' hb25)
      have T7_25 := Lib.hid (T7_w24.out.below' hb25)
      have T8_25 := Lib.hid (T8_w24.out.below' hb25)
      clear T6_w24 T7_w24 T8_w24
      clear hb25
      clear HNC
      go_wp2_with fail
      refine (three_any _).mono ?_
      rintro e w26 ⟨⟨A26, c26, B26, e26, rfl, hs26⟩, hb26⟩
      have K26 : Hid (Below w.heap.size w w26) := bel_on K25.out hb26
      have T6_26 := Lib.hid (T6_25.out.below' hb26)
      have T7_26 := Lib.hid (T7_25.out.below' hb26)
      have T8_26 := Lib.hid (T8_25.out.below' hb26)
      clear T6_25 T7_25 T8_25
      clear hb26
      obtain ⟨w27, hw27⟩ : ∃ W, W = (w26.alloc (.cells #[.int .i64 1, .int .i64 2] 3)).alloc (.cells #[.int .i64 0] 3) := ⟨_, rfl⟩
      obtain ⟨i1, i2, d27⟩ := ints_lit2 w26 [1, 2] [0] (na := 2) (nb := 1) rfl rfl (by omega) (by omega) (by simp) (by simp) hw27
      have Kw27 : Hid (Below w.heap.size w w27) := bel_on K26.out d27
      have T6_w27 := Lib.hid (T6_26.out.below' d27)
      have T7_w27 := Lib.hid (T7_26.out.below' d27)
      have T8_w27 := Lib.hid (T8_26.out.below' d27)
      clear T6_26 T7_26 T8_26
      have Hw27 := Lib.hid hw27
      have HNC := Lib.hid (HN3.out A26 c26 B26 e26 _ _ w27 (hs26.below d27) i1 i2)
      generalize (threeV A26 c26 B26 e26).cs.toArray = cs26 at *
      clear i1 i2 d27 hw27 hs26 HN3
      go_wp2_with (rw [← Hw27.out])
      clear Hw27
      refine (HNC.out).mono ?_
      rintro e w28 ⟨rfl, hb28⟩
      have K28 : Hid (Below w.heap.size w w28) := bel_on Kw27.out hb28
      have T6_28 := Lib.hid (T6_w27.out.below' hb28)
      have T7_28 := Lib.hid (T7_w27.out.below' hb28)
      have T8_28 := Lib.hid (T8_w27.out.below' hb28)
      clear T6_w27 T7_w27 T8_w27
      clear hb28
      clear HNC
      go_wp2_with fail
      refine (three_any _).mono ?_
      rintro e w29 ⟨⟨A29, c29, B29, e29, rfl, hs29⟩, hb29⟩
      have K29 : Hid (Below w.heap.size w w29) := bel_on K28.out hb29
      have T6_29 := Lib.hid (T6_28.out.below' hb29)
      have T7_29 := Lib.hid (T7_28.out.below' hb29)
      have T8_29 := Lib.hid (T8_28.out.below' hb29)
      clear T6_28 T7_28 T8_28
      clear hb29
      obtain ⟨w30, hw30⟩ : ∃ W, W = (w29.alloc (.cells #[.int .i64 0, .int .i64 1] 3)).alloc (.cells #[.int .i64 2] 3) := ⟨_, rfl⟩
      obtain ⟨i1, i2, d30⟩ := ints_lit2 w29 [0, 1] [2] (na := 2) (nb := 1) rfl rfl (by omega) (by omega) (by simp) (by simp) hw30
      have Kw30 : Hid (Below w.heap.size w w30) := bel_on K29.out d30
      have T6_w30 := Lib.hid (T6_29.out.below' d30)
      have T7_w30 := Lib.hid (T7_29.out.below' d30)
      have T8_w30 := Lib.hid (T8_29.out.below' d30)
      clear T6_29 T7_29 T8_29
      have Hw30 := Lib.hid hw30
      have HNC := Lib.hid (HN4.out A29 c29 B29 e29 _ _ w30 (hs29.below d30) i1 i2)
      generalize (threeV A29 c29 B29 e29).cs.toArray = cs29 at *
      clear i1 i2 d30 hw30 hs29 HN4
      go_wp2_with (rw [← Hw30.out])
      clear Hw30
      refine (HNC.out).mono ?_
      rintro e w31 ⟨rfl, hb31⟩
      have K31 : Hid (Below w.heap.size w w31) := bel_on Kw30.out hb31
      have T6_31 := Lib.hid (T6_w30.out.below' hb31)
      have T7_31 := Lib.hid (T7_w30.out.below' hb31)
      have T8_31 := Lib.hid (T8_w30.out.below' hb31)
      clear T6_w30 T7_w30 T8_w30
      clear hb31
      clear HNC
      go_wp2_with fail
      refine (three_any _).mono ?_
      rintro e w40 ⟨⟨A40, c40, B40, e40, rfl, hs40⟩, hb40⟩
      have K40 : Hid (Below w.heap.size w w40) := bel_on K31.out hb40
      have T6_40 := Lib.hid (T6_31.out.below' hb40)
      have T7_40 := Lib.hid (T7_31.out.below' hb40)
      have T8_40 := Lib.hid (T8_31.out.below' hb40)
      clear T6_31 T7_31 T8_31
      clear hb40
      have HLT6 := Lib.hid T6_40.out.lt
      have HLT7 := Lib.hid T7_40.out.lt
      have HLT8 := Lib.hid T8_40.out.lt
      have HIN40 := Lib.hid (StV.info (s := threeV A40 c40 B40 e40) rfl)
      have HSZ40 := Lib.hid (three_size A40 c40 B40 e40)
      have HAL40 := Lib.hid (StV.all (threeV A40 c40 B40 e40))
      have HLC40 := Lib.hid (HLC.out A40 c40 B40 e40)
      have HB40 := Lib.hid K40.out.size
      clear hs40 HLC
      generalize (threeV A40 c40 B40 e40).cs.toArray = cs40 at *
      go_wp2_with (refine wpList_store_row rfl 29 (.tmp 15) (.tmp 139) rfl w40.heap.size cs40 rfl rfl 29 #[.int .i64 0, .int .i64 0, .int .u8 0, .int .u8 0, .int .u8 0, .int .u8 0, .int .u8 0, .int .u8 0, .int .u8 0, .int .u8 0, .int .u8 0, .int .u8 0, .int .u8 0, .int .u8 0, .int .u8 0, .int .u8 0, .int .u8 0, .int .u8 0, .slice none 0 0, .slice none 0 0] (Blk.new _ _ _) HIN40.out HSZ40.out.symm HAL40.out ?_; obtain ⟨w41, hw41⟩ : ∃ W, W = (w40.alloc (.cells #[.int .i64 0, .int .i64 0, .int .u8 0, .int .u8 0, .int .u8 0, .int .u8 0, .int .u8 0, .int .u8 0, .int .u8 0, .int .u8 0, .int .u8 0, .int .u8 0, .int .u8 0, .int .u8 0, .int .u8 0, .int .u8 0, .int .u8 0, .int .u8 0, .slice none 0 0, .slice none 0 0] 29)).setRow w40.heap.size cs40 := ⟨_, rfl⟩; rw [← hw41]; have Hw41 := Lib.hid hw41; clear hw41)
      have d41 : Below w40.heap.size w40 w41 := by rw [Hw41.out]; exact below_setRow (alloc_bel _ _) (Nat.le_refl _) _
      have T15 : Hid (Blk w41 w40.heap.size 29 cs40) := by unfold Hid; rw [Hw41.out]; exact (Blk.new _ _ _).setRow _
      have Kw41 : Hid (Below w.heap.size w w41) := bel_on K40.out d41
      have H41 := Lib.hid T15.out.lt
      have T6_w41 := Lib.hid (T6_40.out.below' d41)
      have T7_w41 := Lib.hid (T7_40.out.below' d41)
      have T8_w41 := Lib.hid (T8_40.out.below' d41)
      clear T6_40 T7_40 T8_40
      clear d41 Hw41 HIN40 HAL40
      refine (HR17.out _).mono ?_
      rintro e w42 ⟨X42, x42, Z42, z42, rfl, gx42, gz42, hb42⟩
      have K42 : Hid (Below w.heap.size w w42) := bel_on Kw41.out hb42
      have GX42 := Lib.hid gx42
      have GZ42 := Lib.hid gz42
      have T6_42 := Lib.hid (T6_w41.out.below' hb42)
      have T7_42 := Lib.hid (T7_w41.out.below' hb42)
      have T8_42 := Lib.hid (T8_w41.out.below' hb42)
      have T15_42 := Lib.hid (T15.out.below' hb42)
      clear T6_w41 T7_w41 T8_w41 T15
      clear hb42 gx42 gz42
      go_wp2_with (refine wpList_store_mid rfl 27 (.tmp 141) (.tmp 140) rfl w40.heap.size 18 #[.slice X42 m17 x42, .slice Z42 n17 z42] rfl rfl (T15_42.out.there (by have := HSZ40.out; simp; omega)) (by kernel_rfl) (by kernel_rfl) ?_; obtain ⟨w43, hw43⟩ : ∃ W, W = (w42.setCell ⟨w40.heap.size, 18, none⟩ (.slice X42 m17 x42)).setCell ⟨w40.heap.size, 19, none⟩ (.slice Z42 n17 z42) := ⟨_, rfl⟩; (show wpList _ _ _ _ _ ((w42.setCell ⟨w40.heap.size, 18, none⟩ (.slice X42 m17 x42)).setCell ⟨w40.heap.size, 19, none⟩ (.slice Z42 n17 z42))); rw [← hw43]; have Hw43 := Lib.hid hw43; clear hw43)
      have T15L : Hid (Blk w43 w40.heap.size 29 (lessV X42 x42 Z42 z42).cs.toArray) := by unfold Hid; rw [Hw43.out, ← HLC40.out]; exact (T15_42.out.set_ 18 (.slice X42 m17 x42)).set_ 19 (.slice Z42 n17 z42)
      have K43 : Hid (Below w.heap.size w w43) := by unfold Hid; rw [Hw43.out]; exact (K42.out.setCell (p := ⟨w40.heap.size, 18, none⟩) HB40.out _).setCell (p := ⟨w40.heap.size, 19, none⟩) HB40.out _
      have T6_43 : Hid (Blk w43 w6.heap.size 27 #[.slice X6 m01 x6, .slice Z6 n01 z6]) := by
        have hne : w6.heap.size ≠ w40.heap.size := by have := HLT6.out; omega
        unfold Hid; rw [Hw43.out]; exact (T6_42.out.far (p := ⟨w40.heap.size, 18, none⟩) hne _).far (p := ⟨w40.heap.size, 19, none⟩) hne _
      clear T6_42
      have T7_43 : Hid (Blk w43 w7.heap.size 27 #[.slice X7 m16 x7, .slice Z7 n16 z7]) := by
        have hne : w7.heap.size ≠ w40.heap.size := by have := HLT7.out; omega
        unfold Hid; rw [Hw43.out]; exact (T7_42.out.far (p := ⟨w40.heap.size, 18, none⟩) hne _).far (p := ⟨w40.heap.size, 19, none⟩) hne _
      clear T7_42
      have T8_43 : Hid (Blk w43 w8.heap.size 27 #[.slice X8 m11 x8, .slice Z8 n11 z8]) := by
        have hne : w8.heap.size ≠ w40.heap.size := by have := HLT8.out; omega
        unfold Hid; rw [Hw43.out]; exact (T8_42.out.far (p := ⟨w40.heap.size, 18, none⟩) hne _).far (p := ⟨w40.heap.size, 19, none⟩) hne _
      clear T8_42
      have NX42 : Hid (NR w43 X42 x42 q17.1) := by unfold Hid; rw [Hw43.out]; exact ((GX42.out.cellAway (p := ⟨w40.heap.size, 18, none⟩) H41.out _).cellAway (p := ⟨w40.heap.size, 19, none⟩) H41.out _).1
      have NZ42 : Hid (NR w43 Z42 z42 q17.2) := by unfold Hid; rw [Hw43.out]; exact ((GZ42.out.cellAway (p := ⟨w40.heap.size, 18, none⟩) H41.out _).cellAway (p := ⟨w40.heap.size, 19, none⟩) H41.out _).1
      clear Hw43 HLC40 HSZ40 GX42 GZ42 T15_42 H41
      refine (three_any _).mono ?_
      rintro e w44 ⟨⟨A44, c44, B44, e44, rfl, hs44⟩, hb44⟩
      have K44 : Hid (Below w.heap.size w w44) := bel_on K43.out hb44
      have T6_44 := Lib.hid (T6_43.out.below' hb44)
      have T7_44 := Lib.hid (T7_43.out.below' hb44)
      have T8_44 := Lib.hid (T8_43.out.below' hb44)
      have T15L_44 := Lib.hid (T15L.out.below' hb44)
      have NX42_44 := Lib.hid (NX42.out.below hb44)
      have NZ42_44 := Lib.hid (NZ42.out.below hb44)
      clear T6_43 T7_43 T8_43 T15L NX42 NZ42
      clear hb44
      have HC44 := Lib.hid (HCO3.out A44 c44 B44 e44 w44 hs44)
      generalize (threeV A44 c44 B44 e44).cs.toArray = cs44 at *
      clear hs44 HCO3
      go_wp2_with fail
      refine (HC44.out).mono ?_
      rintro e w45 ⟨rfl, hb45⟩
      have K45 : Hid (Below w.heap.size w w45) := bel_on K44.out hb45
      have T6_45 := Lib.hid (T6_44.out.below' hb45)
      have T7_45 := Lib.hid (T7_44.out.below' hb45)
      have T8_45 := Lib.hid (T8_44.out.below' hb45)
      have T15L_45 := Lib.hid (T15L_44.out.below' hb45)
      have NX42_45 := Lib.hid (NX42_44.out.below hb45)
      have NZ42_45 := Lib.hid (NZ42_44.out.below hb45)
      clear T6_44 T7_44 T8_44 T15L_44 NX42_44 NZ42_44
      clear hb45
      clear HC44
      have HINL := Lib.hid (StV.info (s := lessV X42 x42 Z42 z42) rfl)
      go_wp2_with (refine wpList_load_row rfl 29 (.tmp 15) rfl w40.heap.size rfl 29 (lessV X42 x42 Z42 z42).cs.toArray (0, 0) _ T15L_45.out Tryz.underlying29 rfl HINL.out ?_)
      refine (HCOL.out X42 x42 Z42 z42 _ (HLO.out X42 x42 Z42 z42 _ NX42_45.out NZ42_45.out)).mono ?_
      rintro e w46 ⟨rfl, hb46⟩
      have K46 : Hid (Below w.heap.size w w46) := bel_on K45.out hb46
      have T6_46 := Lib.hid (T6_45.out.below' hb46)
      have T7_46 := Lib.hid (T7_45.out.below' hb46)
      have T8_46 := Lib.hid (T8_45.out.below' hb46)
      have T15L_46 := Lib.hid (T15L_45.out.below' hb46)
      have NX42_46 := Lib.hid (NX42_45.out.below hb46)
      have NZ42_46 := Lib.hid (NZ42_45.out.below hb46)
      clear T6_45 T7_45 T8_45 T15L_45 NX42_45 NZ42_45
      clear hb46
      clear T15L_46 NX42_46 NZ42_46
      clear HINL HCOL HLO
      go_wp2_with fail
      refine (HR01.out _).mono ?_
      rintro e w47 ⟨X47, x47, Z47, z47, rfl, gx47, gz47, hb47⟩
      have K47 : Hid (Below w.heap.size w w47) := bel_on K46.out hb47
      have GX47 := Lib.hid gx47
      have GZ47 := Lib.hid gz47
      have T6_47 := Lib.hid (T6_46.out.below' hb47)
      have T7_47 := Lib.hid (T7_46.out.below' hb47)
      have T8_47 := Lib.hid (T8_46.out.below' hb47)
      clear T6_46 T7_46 T8_46
      clear hb47 gx47 gz47
      have HCO47 := HCOT.out X47 x47 Z47 z47 w47 (HTO.out X47 x47 Z47 z47 _ GX47.out GZ47.out)
      rw [← HTB.out X47 x47 Z47 z47] at HCO47
      have HCOU := Lib.hid HCO47
      clear HCO47
      go_wp2_with (refine wpList_buildTo rfl 29 _ rfl (some 154) rfl #[.int .i64 2, .int .i64 1, .int .u8 0, .int .u8 0, .int .u8 0, .int .u8 0, .int .u8 0, .int .u8 0, .int .u8 0, .int .u8 0, .int .u8 0, .int .u8 0, .int .u8 0, .int .u8 0, .int .u8 0, .int .u8 0, .int .u8 0, .int .u8 0, .slice X47 m01 x47, .slice Z47 n01 z47] (by kernel_rfl) ?_)
      refine (HCOU.out).mono ?_
      rintro e w48 ⟨rfl, hb48⟩
      have K48 : Hid (Below w.heap.size w w48) := bel_on K47.out hb48
      have T6_48 := Lib.hid (T6_47.out.below' hb48)
      have T7_48 := Lib.hid (T7_47.out.below' hb48)
      have T8_48 := Lib.hid (T8_47.out.below' hb48)
      clear T6_47 T7_47 T8_47
      clear hb48
      clear HCOU GX47 GZ47 HCOT HTO HTB HR01
      go_wp2_with fail
      refine (four_any _).mono ?_
      rintro e w50 ⟨⟨A50, c50, rfl, hi50⟩, hb50⟩
      have K50 : Hid (Below w.heap.size w w50) := bel_on K48.out hb50
      have T6_50 := Lib.hid (T6_48.out.below' hb50)
      have T7_50 := Lib.hid (T7_48.out.below' hb50)
      have T8_50 := Lib.hid (T8_48.out.below' hb50)
      clear T6_48 T7_48 T8_48
      clear hb50
      obtain ⟨w51, hw51⟩ : ∃ W, W = (w50.alloc (.cells #[.int .u8 1, .int .u8 0] 5)).alloc (.cells #[.int .u8 0, .int .u8 2] 5) := ⟨_, rfl⟩
      obtain ⟨i1, i2, d51⟩ := bytes_lit2 w50 [1, 0] [0, 2] (na := 2) (nb := 2) rfl rfl (by omega) (by omega) hw51
      have Kw51 : Hid (Below w.heap.size w w51) := bel_on K50.out d51
      have T6_w51 := Lib.hid (T6_50.out.below' d51)
      have T7_w51 := Lib.hid (T7_50.out.below' d51)
      have T8_w51 := Lib.hid (T8_50.out.below' d51)
      clear T6_50 T7_50 T8_50
      have Hw51 := Lib.hid hw51
      have HSC := Lib.hid (HS1.out A50 c50 _ _ w51 (hi50.below d51) i1 i2)
      generalize (scC 2 4 A50 2 c50 zeroK).toArray = cs50 at *
      clear i1 i2 d51 hw51 hi50 HS1
      go_wp2_with (rw [← Hw51.out])
      clear Hw51
      refine (HSC.out).mono ?_
      rintro e w52 ⟨rfl, hb52⟩
      have K52 : Hid (Below w.heap.size w w52) := bel_on Kw51.out hb52
      have T6_52 := Lib.hid (T6_w51.out.below' hb52)
      have T7_52 := Lib.hid (T7_w51.out.below' hb52)
      have T8_52 := Lib.hid (T8_w51.out.below' hb52)
      clear T6_w51 T7_w51 T8_w51
      clear hb52
      clear HSC
      go_wp2_with fail
      refine (four_any _).mono ?_
      rintro e w53 ⟨⟨A53, c53, rfl, hi53⟩, hb53⟩
      have K53 : Hid (Below w.heap.size w w53) := bel_on K52.out hb53
      have T6_53 := Lib.hid (T6_52.out.below' hb53)
      have T7_53 := Lib.hid (T7_52.out.below' hb53)
      have T8_53 := Lib.hid (T8_52.out.below' hb53)
      clear T6_52 T7_52 T8_52
      clear hb53
      obtain ⟨w54, hw54⟩ : ∃ W, W = (w53.alloc (.cells #[.int .u8 1, .int .u8 0] 5)).alloc (.cells #[.int .u8 1, .int .u8 0] 5) := ⟨_, rfl⟩
      obtain ⟨i1, i2, d54⟩ := bytes_lit2 w53 [1, 0] [1, 0] (na := 2) (nb := 2) rfl rfl (by omega) (by omega) hw54
      have Kw54 : Hid (Below w.heap.size w w54) := bel_on K53.out d54
      have T6_w54 := Lib.hid (T6_53.out.below' d54)
      have T7_w54 := Lib.hid (T7_53.out.below' d54)
      have T8_w54 := Lib.hid (T8_53.out.below' d54)
      clear T6_53 T7_53 T8_53
      have Hw54 := Lib.hid hw54
      have HSC := Lib.hid (HS2.out A53 c53 _ _ w54 (hi53.below d54) i1 i2)
      generalize (scC 2 4 A53 2 c53 zeroK).toArray = cs53 at *
      clear i1 i2 d54 hw54 hi53 HS2
      go_wp2_with (rw [← Hw54.out])
      clear Hw54
      refine (HSC.out).mono ?_
      rintro e w55 ⟨rfl, hb55⟩
      have K55 : Hid (Below w.heap.size w w55) := bel_on Kw54.out hb55
      have T6_55 := Lib.hid (T6_w54.out.below' hb55)
      have T7_55 := Lib.hid (T7_w54.out.below' hb55)
      have T8_55 := Lib.hid (T8_w54.out.below' hb55)
      clear T6_w54 T7_w54 T8_w54
      clear hb55
      clear HSC
      have O8Y := Lib.hid T8_55.out.lt
      obtain ⟨w56, hw56⟩ : ∃ W, W = w55.alloc (.cells #[.int .u8 1, .int .u8 1] 5) := ⟨_, rfl⟩
      have d56 : Below w55.heap.size w55 w56 := by rw [hw56]; exact alloc_bel _ _
      have YB : Hid (Blk w56 w55.heap.size 5 #[.int .u8 1, .int .u8 1]) := by unfold Hid; rw [hw56]; exact Blk.new _ _ _
      have Kw56 : Hid (Below w.heap.size w w56) := bel_on K55.out d56
      have T6_w56 := Lib.hid (T6_55.out.below' d56)
      have T7_w56 := Lib.hid (T7_55.out.below' d56)
      have T8_w56 := Lib.hid (T8_55.out.below' d56)
      clear T6_55 T7_55 T8_55
      have Hw56 := Lib.hid hw56
      clear d56 hw56
      go_wp2_with (rw [← Hw56.out])
      clear Hw56
      refine (four_any _).mono ?_
      rintro e w60 ⟨⟨A60, c60, rfl, hi60⟩, hb60⟩
      have K60 : Hid (Below w.heap.size w w60) := bel_on Kw56.out hb60
      have T6_60 := Lib.hid (T6_w56.out.below' hb60)
      have T7_60 := Lib.hid (T7_w56.out.below' hb60)
      have T8_60 := Lib.hid (T8_w56.out.below' hb60)
      have YB_60 := Lib.hid (YB.out.below' hb60)
      clear T6_w56 T7_w56 T8_w56 YB
      clear hb60
      have HCH := Lib.hid (HC1.out A60 c60 (some ⟨w55.heap.size, 0, none⟩) w60 hi60 ((Blk.ob (B := 0) (n := 2) YB_60.out (Nat.zero_le _) rfl rfl (by omega) : OB 0 _ (some ⟨w55.heap.size, 0, none⟩) 2 [1, 1]).br (by simp)))
      generalize (scC 2 4 A60 2 c60 zeroK).toArray = cs60 at *
      clear hi60 HC1
      have HLY60 := Lib.hid T8_60.out.lt
      have HLT60 : Hid (w6.heap.size < w60.heap.size) := T6_60.out.lt
      go_wp2_with fail
      refine (HCH.out).mono ?_
      rintro e w61 ⟨X61, x61, Z61, z61, rfl, gx61, gz61, hb61⟩
      have K61 : Hid (Below w.heap.size w w61) := bel_on K60.out hb61
      have GX61 := Lib.hid gx61
      have GZ61 := Lib.hid gz61
      have T6_61 := Lib.hid (T6_60.out.below' hb61)
      have T7_61 := Lib.hid (T7_60.out.below' hb61)
      have T8_61 := Lib.hid (T8_60.out.below' hb61)
      have YB_61 := Lib.hid (YB_60.out.below' hb61)
      clear T6_60 T7_60 T8_60 YB_60
      clear hb61 gx61 gz61
      clear HCH
      go_wp2_with (refine wpList_store_row rfl 27 (.tmp 8) (.tmp 212) rfl w6.heap.size #[.slice X61 m18 x61, .slice Z61 n18 z61] rfl rfl 27 #[.slice X6 m01 x6, .slice Z6 n01 z6] T6_61.out (by kernel_rfl) rfl (by kernel_rfl) ?_; obtain ⟨w62, hw62⟩ : ∃ W, W = w61.setRow w6.heap.size #[.slice X61 m18 x61, .slice Z61 n18 z61] := ⟨_, rfl⟩; rw [← hw62]; have Hw62 := Lib.hid hw62; clear hw62)
      have K62 : Hid (Below w.heap.size w w62) := by unfold Hid; rw [Hw62.out]; exact below_setRow K61.out HB6.out _
      have NT6 : Hid (Blk w62 w6.heap.size 27 #[.slice X61 m18 x61, .slice Z61 n18 z61]) := by unfold Hid; rw [Hw62.out]; exact T6_61.out.setRow _
      have NX61 : Hid (NF w60.heap.size w62 X61 x61 q18.1) := by unfold Hid; rw [Hw62.out]; exact GX61.out.elsewhere HLT60.out _
      have NZ61 : Hid (NF w60.heap.size w62 Z61 z61 q18.2) := by unfold Hid; rw [Hw62.out]; exact GZ61.out.elsewhere HLT60.out _
      have T7_62 := Lib.hid (T7_61.out.elsewhere (show w7.heap.size ≠ w6.heap.size by have h1 := O67.out; have h2 := O78.out; have h3 := O8Y.out; omega) #[.slice X61 m18 x61, .slice Z61 n18 z61])
      rw [← Hw62.out] at T7_62
      clear T7_61
      have T8_62 := Lib.hid (T8_61.out.elsewhere (show w8.heap.size ≠ w6.heap.size by have h1 := O67.out; have h2 := O78.out; have h3 := O8Y.out; omega) #[.slice X61 m18 x61, .slice Z61 n18 z61])
      rw [← Hw62.out] at T8_62
      clear T8_61
      have YB_62 := Lib.hid (YB_61.out.elsewhere (show w55.heap.size ≠ w6.heap.size by have h1 := O67.out; have h2 := O78.out; have h3 := O8Y.out; omega) #[.slice X61 m18 x61, .slice Z61 n18 z61])
      rw [← Hw62.out] at YB_62
      clear YB_61
      clear T6_61 GX61 GZ61 Hw62
      refine (four_any _).mono ?_
      rintro e w63 ⟨⟨A63, c63, rfl, hi63⟩, hb63⟩
      have K63 : Hid (Below w.heap.size w w63) := bel_on K62.out hb63
      have T7_63 := Lib.hid (T7_62.out.below' hb63)
      have T8_63 := Lib.hid (T8_62.out.below' hb63)
      have YB_63 := Lib.hid (YB_62.out.below' hb63)
      have NT6_63 := Lib.hid (NT6.out.below' hb63)
      have NX61_63 := Lib.hid (NX61.out.below hb63)
      have NZ61_63 := Lib.hid (NZ61.out.below hb63)
      clear T7_62 T8_62 YB_62 NT6 NX61 NZ61
      clear hb63
      have HCH := Lib.hid (HC2.out A63 c63 (some ⟨w55.heap.size, 0, none⟩) w63 hi63 ((Blk.ob (B := 0) (n := 2) YB_63.out (Nat.zero_le _) rfl rfl (by omega) : OB 0 _ (some ⟨w55.heap.size, 0, none⟩) 2 [1, 1]).br (by simp)))
      generalize (scC 2 4 A63 2 c63 zeroK).toArray = cs63 at *
      clear hi63 HC2
      have HLY63 := Lib.hid T8_63.out.lt
      have HLT63 : Hid (w7.heap.size < w63.heap.size) := T7_63.out.lt
      go_wp2_with fail
      refine (HCH.out).mono ?_
      rintro e w64 ⟨X64, x64, Z64, z64, rfl, gx64, gz64, hb64⟩
      have K64 : Hid (Below w.heap.size w w64) := bel_on K63.out hb64
      have GX64 := Lib.hid gx64
      have GZ64 := Lib.hid gz64
      have T7_64 := Lib.hid (T7_63.out.below' hb64)
      have T8_64 := Lib.hid (T8_63.out.below' hb64)
      have YB_64 := Lib.hid (YB_63.out.below' hb64)
      have NT6_64 := Lib.hid (NT6_63.out.below' hb64)
      have NX61_64 := Lib.hid (NX61_63.out.below hb64)
      have NZ61_64 := Lib.hid (NZ61_63.out.below hb64)
      clear T7_63 T8_63 YB_63 NT6_63 NX61_63 NZ61_63
      clear hb64 gx64 gz64
      clear HCH
      go_wp2_with (refine wpList_store_row rfl 27 (.tmp 9) (.tmp 218) rfl w7.heap.size #[.slice X64 m58 x64, .slice Z64 n58 z64] rfl rfl 27 #[.slice X7 m16 x7, .slice Z7 n16 z7] T7_64.out (by kernel_rfl) rfl (by kernel_rfl) ?_; obtain ⟨w65, hw65⟩ : ∃ W, W = w64.setRow w7.heap.size #[.slice X64 m58 x64, .slice Z64 n58 z64] := ⟨_, rfl⟩; rw [← hw65]; have Hw65 := Lib.hid hw65; clear hw65)
      have K65 : Hid (Below w.heap.size w w65) := by unfold Hid; rw [Hw65.out]; exact below_setRow K64.out HB7.out _
      have NT7 : Hid (Blk w65 w7.heap.size 27 #[.slice X64 m58 x64, .slice Z64 n58 z64]) := by unfold Hid; rw [Hw65.out]; exact T7_64.out.setRow _
      have NX64 : Hid (NF w63.heap.size w65 X64 x64 q58.1) := by unfold Hid; rw [Hw65.out]; exact GX64.out.elsewhere HLT63.out _
      have NZ64 : Hid (NF w63.heap.size w65 Z64 z64 q58.2) := by unfold Hid; rw [Hw65.out]; exact GZ64.out.elsewhere HLT63.out _
      have T8_65 := Lib.hid (T8_64.out.elsewhere (show w8.heap.size ≠ w7.heap.size by have h1 := O67.out; have h2 := O78.out; have h3 := O8Y.out; omega) #[.slice X64 m58 x64, .slice Z64 n58 z64])
      rw [← Hw65.out] at T8_65
      clear T8_64
      have YB_65 := Lib.hid (YB_64.out.elsewhere (show w55.heap.size ≠ w7.heap.size by have h1 := O67.out; have h2 := O78.out; have h3 := O8Y.out; omega) #[.slice X64 m58 x64, .slice Z64 n58 z64])
      rw [← Hw65.out] at YB_65
      clear YB_64
      have NT6_65 := Lib.hid (NT6_64.out.elsewhere (show w6.heap.size ≠ w7.heap.size by have h1 := O67.out; have h2 := O78.out; have h3 := O8Y.out; omega) #[.slice X64 m58 x64, .slice Z64 n58 z64])
      rw [← Hw65.out] at NT6_65
      clear NT6_64
      have NX61_65 := Lib.hid (NX61_64.out.elsewhere (show w7.heap.size < w60.heap.size by have h1 := O67.out; have h2 := O78.out; have h4 := HLY60.out; omega) #[.slice X64 m58 x64, .slice Z64 n58 z64])
      rw [← Hw65.out] at NX61_65
      clear NX61_64
      have NZ61_65 := Lib.hid (NZ61_64.out.elsewhere (show w7.heap.size < w60.heap.size by have h1 := O67.out; have h2 := O78.out; have h4 := HLY60.out; omega) #[.slice X64 m58 x64, .slice Z64 n58 z64])
      rw [← Hw65.out] at NZ61_65
      clear NZ61_64
      clear T7_64 GX64 GZ64 Hw65
      refine (four_any _).mono ?_
      rintro e w66 ⟨⟨A66, c66, rfl, hi66⟩, hb66⟩
      have K66 : Hid (Below w.heap.size w w66) := bel_on K65.out hb66
      have T8_66 := Lib.hid (T8_65.out.below' hb66)
      have YB_66 := Lib.hid (YB_65.out.below' hb66)
      have NT6_66 := Lib.hid (NT6_65.out.below' hb66)
      have NX61_66 := Lib.hid (NX61_65.out.below hb66)
      have NZ61_66 := Lib.hid (NZ61_65.out.below hb66)
      have NT7_66 := Lib.hid (NT7.out.below' hb66)
      have NX64_66 := Lib.hid (NX64.out.below hb66)
      have NZ64_66 := Lib.hid (NZ64.out.below hb66)
      clear T8_65 YB_65 NT6_65 NX61_65 NZ61_65 NT7 NX64 NZ64
      clear hb66
      have HCH := Lib.hid (HC3.out A66 c66 (some ⟨w55.heap.size, 0, none⟩) w66 hi66 ((Blk.ob (B := 0) (n := 2) YB_66.out (Nat.zero_le _) rfl rfl (by omega) : OB 0 _ (some ⟨w55.heap.size, 0, none⟩) 2 [1, 1]).br (by simp)))
      generalize (scC 2 4 A66 2 c66 zeroK).toArray = cs66 at *
      clear hi66 HC3
      have HLY66 := Lib.hid T8_66.out.lt
      have HLT66 : Hid (w8.heap.size < w66.heap.size) := T8_66.out.lt
      go_wp2_with fail
      refine (HCH.out).mono ?_
      rintro e w67 ⟨X67, x67, Z67, z67, rfl, gx67, gz67, hb67⟩
      have K67 : Hid (Below w.heap.size w w67) := bel_on K66.out hb67
      have GX67 := Lib.hid gx67
      have GZ67 := Lib.hid gz67
      have T8_67 := Lib.hid (T8_66.out.below' hb67)
      have YB_67 := Lib.hid (YB_66.out.below' hb67)
      have NT6_67 := Lib.hid (NT6_66.out.below' hb67)
      have NX61_67 := Lib.hid (NX61_66.out.below hb67)
      have NZ61_67 := Lib.hid (NZ61_66.out.below hb67)
      have NT7_67 := Lib.hid (NT7_66.out.below' hb67)
      have NX64_67 := Lib.hid (NX64_66.out.below hb67)
      have NZ64_67 := Lib.hid (NZ64_66.out.below hb67)
      clear T8_66 YB_66 NT6_66 NX61_66 NZ61_66 NT7_66 NX64_66 NZ64_66
      clear hb67 gx67 gz67
      clear HCH
      go_wp2_with (refine wpList_store_row rfl 27 (.tmp 10) (.tmp 224) rfl w8.heap.size #[.slice X67 m11 x67, .slice Z67 n11 z67] rfl rfl 27 #[.slice X8 m11 x8, .slice Z8 n11 z8] T8_67.out (by kernel_rfl) rfl (by kernel_rfl) ?_; obtain ⟨w68, hw68⟩ : ∃ W, W = w67.setRow w8.heap.size #[.slice X67 m11 x67, .slice Z67 n11 z67] := ⟨_, rfl⟩; rw [← hw68]; have Hw68 := Lib.hid hw68; clear hw68)
      have K68 : Hid (Below w.heap.size w w68) := by unfold Hid; rw [Hw68.out]; exact below_setRow K67.out HB8.out _
      have NT8 : Hid (Blk w68 w8.heap.size 27 #[.slice X67 m11 x67, .slice Z67 n11 z67]) := by unfold Hid; rw [Hw68.out]; exact T8_67.out.setRow _
      have NX67 : Hid (NF w66.heap.size w68 X67 x67 q11.1) := by unfold Hid; rw [Hw68.out]; exact GX67.out.elsewhere HLT66.out _
      have NZ67 : Hid (NF w66.heap.size w68 Z67 z67 q11.2) := by unfold Hid; rw [Hw68.out]; exact GZ67.out.elsewhere HLT66.out _
      have YB_68 := Lib.hid (YB_67.out.elsewhere (show w55.heap.size ≠ w8.heap.size by have h1 := O67.out; have h2 := O78.out; have h3 := O8Y.out; omega) #[.slice X67 m11 x67, .slice Z67 n11 z67])
      rw [← Hw68.out] at YB_68
      clear YB_67
      have NT6_68 := Lib.hid (NT6_67.out.elsewhere (show w6.heap.size ≠ w8.heap.size by have h1 := O67.out; have h2 := O78.out; have h3 := O8Y.out; omega) #[.slice X67 m11 x67, .slice Z67 n11 z67])
      rw [← Hw68.out] at NT6_68
      clear NT6_67
      have NX61_68 := Lib.hid (NX61_67.out.elsewhere (show w8.heap.size < w60.heap.size by have h1 := O67.out; have h2 := O78.out; have h4 := HLY60.out; omega) #[.slice X67 m11 x67, .slice Z67 n11 z67])
      rw [← Hw68.out] at NX61_68
      clear NX61_67
      have NZ61_68 := Lib.hid (NZ61_67.out.elsewhere (show w8.heap.size < w60.heap.size by have h1 := O67.out; have h2 := O78.out; have h4 := HLY60.out; omega) #[.slice X67 m11 x67, .slice Z67 n11 z67])
      rw [← Hw68.out] at NZ61_68
      clear NZ61_67
      have NT7_68 := Lib.hid (NT7_67.out.elsewhere (show w7.heap.size ≠ w8.heap.size by have h1 := O67.out; have h2 := O78.out; have h3 := O8Y.out; omega) #[.slice X67 m11 x67, .slice Z67 n11 z67])
      rw [← Hw68.out] at NT7_68
      clear NT7_67
      have NX64_68 := Lib.hid (NX64_67.out.elsewhere (show w8.heap.size < w63.heap.size by have h1 := O67.out; have h2 := O78.out; have h4 := HLY63.out; omega) #[.slice X67 m11 x67, .slice Z67 n11 z67])
      rw [← Hw68.out] at NX64_68
      clear NX64_67
      have NZ64_68 := Lib.hid (NZ64_67.out.elsewhere (show w8.heap.size < w63.heap.size by have h1 := O67.out; have h2 := O78.out; have h4 := HLY63.out; omega) #[.slice X67 m11 x67, .slice Z67 n11 z67])
      rw [← Hw68.out] at NZ64_68
      clear NZ64_67
      clear T8_67 GX67 GZ67 Hw68
      refine (four_any _).mono ?_
      rintro e w69 ⟨⟨A69, c69, rfl, hi69⟩, hb69⟩
      have K69 : Hid (Below w.heap.size w w69) := bel_on K68.out hb69
      have YB_69 := Lib.hid (YB_68.out.below' hb69)
      have NT6_69 := Lib.hid (NT6_68.out.below' hb69)
      have NX61_69 := Lib.hid (NX61_68.out.below hb69)
      have NZ61_69 := Lib.hid (NZ61_68.out.below hb69)
      have NT7_69 := Lib.hid (NT7_68.out.below' hb69)
      have NX64_69 := Lib.hid (NX64_68.out.below hb69)
      have NZ64_69 := Lib.hid (NZ64_68.out.below hb69)
      have NT8_69 := Lib.hid (NT8.out.below' hb69)
      have NX67_69 := Lib.hid (NX67.out.below hb69)
      have NZ67_69 := Lib.hid (NZ67.out.below hb69)
      clear YB_68 NT6_68 NX61_68 NZ61_68 NT7_68 NX64_68 NZ64_68 NT8 NX67 NZ67
      clear hb69
      have HCH := Lib.hid (HC4.out A69 c69 (some ⟨w55.heap.size, 0, none⟩) w69 hi69 ((Blk.ob (B := 0) (n := 2) YB_69.out (Nat.zero_le _) rfl rfl (by omega) : OB 0 _ (some ⟨w55.heap.size, 0, none⟩) 2 [1, 1]).br (by simp)))
      generalize (scC 2 4 A69 2 c69 zeroK).toArray = cs69 at *
      clear hi69 HC4
      go_wp2_with fail
      refine (HCH.out).mono ?_
      rintro e w70 ⟨X70, x70, Z70, z70, rfl, gx70, gz70, hb70⟩
      have HB70 := Lib.hid (bel_on K69.out hb70).size
      obtain ⟨w70b, hw70⟩ : ∃ W, W = w70.alloc (.cells #[.slice X70 m01 x70, .slice Z70 n01 z70] 27) := ⟨_, rfl⟩
      have d70 : Below w70.heap.size w70 w70b := by rw [hw70]; exact alloc_bel _ _
      have HB70 := Lib.hid (bel_on K69.out hb70).size
      have hbb70 := bel_on hb70 d70
      have K70 : Hid (Below w.heap.size w w70b) := bel_on K69.out hbb70
      have T70 : Hid (Blk w70b w70.heap.size 27 #[.slice X70 m01 x70, .slice Z70 n01 z70]) := by unfold Hid; rw [hw70]; exact Blk.new _ _ _
      have GX70 := Lib.hid (gx70.below d70)
      have GZ70 := Lib.hid (gz70.below d70)
      have YB_70 := Lib.hid (YB_69.out.below' hbb70)
      have NT6_70 := Lib.hid (NT6_69.out.below' hbb70)
      have NX61_70 := Lib.hid (NX61_69.out.below hbb70)
      have NZ61_70 := Lib.hid (NZ61_69.out.below hbb70)
      have NT7_70 := Lib.hid (NT7_69.out.below' hbb70)
      have NX64_70 := Lib.hid (NX64_69.out.below hbb70)
      have NZ64_70 := Lib.hid (NZ64_69.out.below hbb70)
      have NT8_70 := Lib.hid (NT8_69.out.below' hbb70)
      have NX67_70 := Lib.hid (NX67_69.out.below hbb70)
      have NZ67_70 := Lib.hid (NZ67_69.out.below hbb70)
      clear YB_69 NT6_69 NX61_69 NZ61_69 NT7_69 NX64_69 NZ64_69 NT8_69 NX67_69 NZ67_69
      have HW70 := Lib.hid hw70
      clear hw70 d70 hbb70 hb70 gx70 gz70
      clear HCH
      go_wp2_with (rw [← HW70.out])
      clear HW70
      refine (four_any _).mono ?_
      rintro e w71 ⟨⟨A71, c71, rfl, hi71⟩, hb71⟩
      have K71 : Hid (Below w.heap.size w w71) := bel_on K70.out hb71
      have YB_71 := Lib.hid (YB_70.out.below' hb71)
      have NT6_71 := Lib.hid (NT6_70.out.below' hb71)
      have NX61_71 := Lib.hid (NX61_70.out.below hb71)
      have NZ61_71 := Lib.hid (NZ61_70.out.below hb71)
      have NT7_71 := Lib.hid (NT7_70.out.below' hb71)
      have NX64_71 := Lib.hid (NX64_70.out.below hb71)
      have NZ64_71 := Lib.hid (NZ64_70.out.below hb71)
      have NT8_71 := Lib.hid (NT8_70.out.below' hb71)
      have NX67_71 := Lib.hid (NX67_70.out.below hb71)
      have NZ67_71 := Lib.hid (NZ67_70.out.below hb71)
      have T70_71 := Lib.hid (T70.out.below' hb71)
      have GX70_71 := Lib.hid (GX70.out.below hb71)
      have GZ70_71 := Lib.hid (GZ70.out.below hb71)
      clear YB_70 NT6_70 NX61_70 NZ61_70 NT7_70 NX64_70 NZ64_70 NT8_70 NX67_70 NZ67_70 T70 GX70 GZ70
      clear hb71
      have HI71 := Lib.hid hi71
      clear hi71
      have HBD71 := Lib.hid (HBD.out A71 c71 (some ⟨w55.heap.size, 0, none⟩))
      clear HBD
      generalize (scC 2 4 A71 2 c71 zeroK).toArray = cs71 at *
      go_wp2_with fail
      refine (HR19.out _).mono ?_
      rintro e w72 ⟨X72, x72, Z72, z72, rfl, gx72, gz72, hb72⟩
      have K72 : Hid (Below w.heap.size w w72) := bel_on K71.out hb72
      have GX72 := Lib.hid gx72
      have GZ72 := Lib.hid gz72
      have YB_72 := Lib.hid (YB_71.out.below' hb72)
      have NT6_72 := Lib.hid (NT6_71.out.below' hb72)
      have NX61_72 := Lib.hid (NX61_71.out.below hb72)
      have NZ61_72 := Lib.hid (NZ61_71.out.below hb72)
      have NT7_72 := Lib.hid (NT7_71.out.below' hb72)
      have NX64_72 := Lib.hid (NX64_71.out.below hb72)
      have NZ64_72 := Lib.hid (NZ64_71.out.below hb72)
      have NT8_72 := Lib.hid (NT8_71.out.below' hb72)
      have NX67_72 := Lib.hid (NX67_71.out.below hb72)
      have NZ67_72 := Lib.hid (NZ67_71.out.below hb72)
      have T70_72 := Lib.hid (T70_71.out.below' hb72)
      have GX70_72 := Lib.hid (GX70_71.out.below hb72)
      have GZ70_72 := Lib.hid (GZ70_71.out.below hb72)
      have HI71_72 := Lib.hid (HI71.out.below hb72)
      clear YB_71 NT6_71 NX61_71 NZ61_71 NT7_71 NX64_71 NZ64_71 NT8_71 NX67_71 NZ67_71 T70_71 GX70_71 GZ70_71 HI71
      clear hb72 gx72 gz72
      clear HR19
      go_wp2_with fail
      refine (HBD71.out X72 x72 Z72 z72 _ HI71_72.out ((Blk.ob (B := 0) (n := 2) YB_72.out (Nat.zero_le _) rfl rfl (by omega) : OB 0 _ (some ⟨w55.heap.size, 0, none⟩) 2 [1, 1]).br (by simp)) GX72.out GZ72.out).mono ?_
      rintro e w73 ⟨rfl, hb73⟩
      have K73 : Hid (Below w.heap.size w w73) := bel_on K72.out hb73
      have YB_73 := Lib.hid (YB_72.out.below' hb73)
      have NT6_73 := Lib.hid (NT6_72.out.below' hb73)
      have NX61_73 := Lib.hid (NX61_72.out.below hb73)
      have NZ61_73 := Lib.hid (NZ61_72.out.below hb73)
      have NT7_73 := Lib.hid (NT7_72.out.below' hb73)
      have NX64_73 := Lib.hid (NX64_72.out.below hb73)
      have NZ64_73 := Lib.hid (NZ64_72.out.below hb73)
      have NT8_73 := Lib.hid (NT8_72.out.below' hb73)
      have NX67_73 := Lib.hid (NX67_72.out.below hb73)
      have NZ67_73 := Lib.hid (NZ67_72.out.below hb73)
      have T70_73 := Lib.hid (T70_72.out.below' hb73)
      have GX70_73 := Lib.hid (GX70_72.out.below hb73)
      have GZ70_73 := Lib.hid (GZ70_72.out.below hb73)
      have HI71_73 := Lib.hid (HI71_72.out.below hb73)
      clear YB_72 NT6_72 NX61_72 NZ61_72 NT7_72 NX64_72 NZ64_72 NT8_72 NX67_72 NZ67_72 T70_72 GX70_72 GZ70_72 HI71_72
      clear hb73
      clear YB_73 HI71_73
      clear HBD71 GX72 GZ72
      have q0 := NT6_73.out.cell 0
      have q1 := NT6_73.out.cell 1
      go_wp2_with fail
      clear q0 q1
      refine (HI18.out _ _ _ _ _ NX61_73.out.1 NZ61_73.out.1).mono ?_
      rintro e w74 ⟨rfl, hb74⟩
      have K74 : Hid (Below w.heap.size w w74) := bel_on K73.out hb74
      have NT6_74 := Lib.hid (NT6_73.out.below' hb74)
      have NX61_74 := Lib.hid (NX61_73.out.below hb74)
      have NZ61_74 := Lib.hid (NZ61_73.out.below hb74)
      have NT7_74 := Lib.hid (NT7_73.out.below' hb74)
      have NX64_74 := Lib.hid (NX64_73.out.below hb74)
      have NZ64_74 := Lib.hid (NZ64_73.out.below hb74)
      have NT8_74 := Lib.hid (NT8_73.out.below' hb74)
      have NX67_74 := Lib.hid (NX67_73.out.below hb74)
      have NZ67_74 := Lib.hid (NZ67_73.out.below hb74)
      have T70_74 := Lib.hid (T70_73.out.below' hb74)
      have GX70_74 := Lib.hid (GX70_73.out.below hb74)
      have GZ70_74 := Lib.hid (GZ70_73.out.below hb74)
      clear NT6_73 NX61_73 NZ61_73 NT7_73 NX64_73 NZ64_73 NT8_73 NX67_73 NZ67_73 T70_73 GX70_73 GZ70_73
      clear hb74
      clear NT6_74 NX61_74 NZ61_74
      have q0 := NT7_74.out.cell 0
      have q1 := NT7_74.out.cell 1
      go_wp2_with fail
      clear q0 q1
      refine (HI58.out _ _ _ _ _ NX64_74.out.1 NZ64_74.out.1).mono ?_
      rintro e w75 ⟨rfl, hb75⟩
      have K75 : Hid (Below w.heap.size w w75) := bel_on K74.out hb75
      have NT7_75 := Lib.hid (NT7_74.out.below' hb75)
      have NX64_75 := Lib.hid (NX64_74.out.below hb75)
      have NZ64_75 := Lib.hid (NZ64_74.out.below hb75)
      have NT8_75 := Lib.hid (NT8_74.out.below' hb75)
      have NX67_75 := Lib.hid (NX67_74.out.below hb75)
      have NZ67_75 := Lib.hid (NZ67_74.out.below hb75)
      have T70_75 := Lib.hid (T70_74.out.below' hb75)
      have GX70_75 := Lib.hid (GX70_74.out.below hb75)
      have GZ70_75 := Lib.hid (GZ70_74.out.below hb75)
      clear NT7_74 NX64_74 NZ64_74 NT8_74 NX67_74 NZ67_74 T70_74 GX70_74 GZ70_74
      clear hb75
      clear NT7_75 NX64_75 NZ64_75
      have q0 := NT8_75.out.cell 0
      have q1 := NT8_75.out.cell 1
      go_wp2_with fail
      clear q0 q1
      refine (HI11.out _ _ _ _ _ NX67_75.out.1 NZ67_75.out.1).mono ?_
      rintro e w76 ⟨rfl, hb76⟩
      have K76 : Hid (Below w.heap.size w w76) := bel_on K75.out hb76
      have NT8_76 := Lib.hid (NT8_75.out.below' hb76)
      have NX67_76 := Lib.hid (NX67_75.out.below hb76)
      have NZ67_76 := Lib.hid (NZ67_75.out.below hb76)
      have T70_76 := Lib.hid (T70_75.out.below' hb76)
      have GX70_76 := Lib.hid (GX70_75.out.below hb76)
      have GZ70_76 := Lib.hid (GZ70_75.out.below hb76)
      clear NT8_75 NX67_75 NZ67_75 T70_75 GX70_75 GZ70_75
      clear hb76
      clear NT8_76 NX67_76 NZ67_76
      have q0 := T70_76.out.cell 0
      have q1 := T70_76.out.cell 1
      go_wp2_with fail
      clear q0 q1
      refine (HI01.out _ _ _ _ _ GX70_76.out.1 GZ70_76.out.1).mono ?_
      rintro e w77 ⟨rfl, hb77⟩
      have K77 : Hid (Below w.heap.size w w77) := bel_on K76.out hb77
      have T70_77 := Lib.hid (T70_76.out.below' hb77)
      have GX70_77 := Lib.hid (GX70_76.out.below hb77)
      have GZ70_77 := Lib.hid (GZ70_76.out.below hb77)
      clear T70_76 GX70_76 GZ70_76
      clear hb77
      clear T70_77 GX70_77 GZ70_77
      go_wp2_with fail
      go_ret
      exact ⟨by simp, K77.out⟩
end Go.Proofs.YtenpkmgbaajeeaaGreat
