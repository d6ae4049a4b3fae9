/-
  Lemmas and contracts, joined: part 8.
-/
import Derived.Test.YtenpkmgbaajeeaaCodeTailsB7
set_option linter.unusedSimpArgs false
set_option linter.unusedVariables false
set_option linter.unnecessarySimpa false
/- Whether a code of steps is complete: the reference's, and both for any code. -/
namespace Go.Proofs.Ytenpkmgbaajeeaa
open Go.RowKit
set_option linter.unusedVariables false
set_option linter.unusedSimpArgs false

def thL (t : Nat → Int) (n : Nat) : List Int := (List.range n).map t
theorem thL_length (t : Nat → Int) (n : Nat) : (thL t n).length = n := by simp [thL]
theorem thL_succ (t : Nat → Int) (n : Nat) : thL t (n + 1) = thL t n ++ [t n] := by simp [thL, List.range_succ]
theorem thL_it {t : Nat → Int} {n i : Nat} (h : i < n) : it (thL t n) i = t i := by rw [it_in (by rw [thL_length]; exact h)]; simp [thL]
set_option maxHeartbeats 8000000 in
set_option maxRecDepth 100000 in
theorem refThresholds_any (s : StV) (d : Nat) (w : World) (h : StOK w s) (hok : s.ok = true) (hd : s.b = (d : Int)) :
    Calls Try.prog 49 #[.agg s.cs.toArray] w fun e w' => (∃ A c, e = .returned (.slice A (2 * d + 1) c) ∧ IR w' A c (thL s.th (2 * d + 1))) ∧ Below w.heap.size w w' := by
  obtain ⟨⟨q1, q2, q3, q4⟩, hl⟩ := StV.parts hok
  have HTO : Hid (∀ K : Nat, (K : Int) ≤ 2 * (d : Int) → ∀ W, Below w.heap.size w W → Calls Try.prog 48 #[.agg s.cs.toArray, .int .i64 (K : Int)] W fun e w' => e = .returned (.int .i64 (s.th K)) ∧ Below W.heap.size W w') := fun K hk W hW => refThresholdOf_any s K W (h.below hW) hok (by omega)
  have hks := h.k16
  obtain ⟨W0, hW0⟩ : ∃ W : World, W = w.alloc (.cells s.cs.toArray 51) := ⟨_, rfl⟩
  have b0 : Hid (Below w.heap.size w W0) := by unfold Hid; rw [hW0]; exact alloc_below _ _
  have x0 : Hid (Blk W0 w.heap.size 51 s.cs.toArray) := by unfold Hid; rw [hW0]; exact Blk.new w _ _
  have HW0 := Lib.hid hW0
  have HIN := Lib.hid (StV.info (s := s) hks)
  have HCL : Hid (∀ W, Below W0.heap.size W0 W → W.cell? ⟨w.heap.size, 1, none⟩ = some (.int .i64 (d : Int))) := fun W hW => by
    obtain ⟨_, g1, _, _⟩ := StV.cells hks (x0.out.below' hW)
    rwa [hd] at g1
  have HTB : Hid (∀ k, -1 ≤ s.th k ∧ s.th k ≤ k) := fun k => ⟨thS_ge _ _ _ _, thS_le _ _ _ _⟩
  have hd1 : 1 ≤ d := by omega
  have hd2 : d ≤ 64 := by omega
  have hdi : (d : Int) ≤ 64 := by omega
  generalize s.th = t at *
  generalize s.cs.toArray = cs at *
  clear hW0 h hok hl hks q1 q2 q3 q4 hd
  go_enter Try.func49, Try.ntmps49
  go_wp2_with (first | (rw [← HW0.out]))
  go_loopw [3, 4] (fun va vk wr => ∃ (k c : Nat) (A : Option Addr), k ≤ 2 * d + 1 ∧ vk = .int .i64 (k : Int) ∧ va = .slice A k c ∧ Hid (OI W0.heap.size wr A c (thL t k)) ∧ Below W0.heap.size W0 wr) (fun _ vk _ => 2 * d + 1 - (intOf vk).toNat)
  case atStart => exact ⟨0, 0, none, by omega, rfl, rfl, OI.nil _ _, by first | exact Below.refl _ _ | (rw [← HW0.out]; exact Below.refl _ _)⟩
  case round =>
    obtain ⟨k, c, A, hk, rfl, rfl, HO, hbel⟩ := hrel
    have c1 := HCL.out _ hbel
    have X1 := Lib.hid (x0.out.below' hbel)
    by_cases hlt : k < 2 * d + 1
    · have hki : (k : Int) ≤ 2 * (d : Int) := by omega
      have HT2 := Lib.hid (HTO.out k hki)
      have HTL : Hid ((thL t k).length = k) := thL_length t k
      have HTS := Lib.hid (thL_succ t k)
      go_wp2_with (first
        | (refine wpList_load_row rfl 51 (.tmp 1) rfl (w.heap.size) rfl 51 cs (0, 0) _ X1.out Try.underlying51 rfl HIN.out ?_)
        | (go_at_call 48; (with_reducible refine (HT2.out _ (bel_on b0.out hbel)).mono ?_); rintro e w3 ⟨rfl, hb⟩; have O3 := Lib.hid (HO.out.below hb); have D3 := Lib.hid (bel_on hbel hb); clear hb)
        | (at_builtin; refine wpList_append_int _ rfl (.tmp 12) (.tmp 16) rfl W0.heap.size A k c (thL t k) HTL.out rfl (O3.out.below (alloc_bel _ _)) (t k) (some ⟨w3.heap.size, 0, none⟩) 1 rfl (Src.one _ _ _) (by omega) (by have := D3.out.size; simp; omega) ?_; intro A6 c6 w6 ho6 hb6 hg6; have O6 : Hid (OI W0.heap.size w6 A6 c6 (thL t (k + 1))) := (by unfold Hid; rw [HTS.out]; exact ho6); have D6 : Hid (Below W0.heap.size W0 w6) := (D3.out.alloc (by have := D3.out.size; omega) _).trans hb6; clear ho6 hb6 hg6))
      go_roundw
      case rel => exact ⟨k + 1, c6, A6, by omega, by go_num, rfl, O6.out, D6.out⟩
      case measure => simp [intOf]; omega
    · obtain rfl : k = 2 * d + 1 := by omega
      have hx : ¬ (((2 * d + 1 : Nat) : Int) ≤ 2 * (d : Int)) := by omega
      have hx2 : ¬ (2 * (d : Int) + 1 ≤ 2 * (d : Int)) := by omega
      go_wp2_with fail
      go_ret
      exact ⟨⟨A, c, rfl, HO.out.ir (by rw [thL_length]; omega) fun x hx => by
        obtain ⟨i, hi, rfl⟩ := List.mem_map.1 hx
        have := HTB.out i
        rw [List.mem_range] at hi
        omega⟩, bel_on b0.out hbel⟩

theorem mayS_or {d : Nat} {t : Nat → Int} {j v x : Nat} : (decide (∃ u, u < v ∧ mayS d t j u = true ∧ t (u + x) < (u : Int)) || (mayS d t j v && decide (t (v + x) < (v : Int)))) = decide (∃ u, u < v + 1 ∧ mayS d t j u = true ∧ t (u + x) < (u : Int)) := by
  rw [Bool.eq_iff_iff, Bool.or_eq_true, Bool.and_eq_true, decide_eq_true_eq, decide_eq_true_eq, decide_eq_true_eq]
  constructor
  · rintro (⟨u, h1, h2, h3⟩ | ⟨h1, h2⟩)
    · exact ⟨u, by omega, h2, h3⟩
    · exact ⟨v, by omega, h1, h2⟩
  · rintro ⟨u, h1, h2, h3⟩
    by_cases e : u = v
    · subst e; exact .inr ⟨h2, h3⟩
    · exact .inl ⟨u, by omega, h2, h3⟩
theorem mayS_fin {d : Nat} {t : Nat → Int} {j x : Nat} : decide (∃ u, u < d + 1 ∧ mayS d t j u = true ∧ t (u + x) < (u : Int)) = mayS d t (j + 1) x := by
  rw [mayS, decide_eq_decide]
  constructor
  · rintro ⟨v, hv, h1, h3⟩; exact ⟨v, by omega, h1, h3⟩
  · rintro ⟨v, hv, h1, h3⟩; exact ⟨v, by omega, h1, h3⟩
/-- What the next block may weigh, the first v weights of this one looked at. -/
def nextQ (d : Nat) (t : Nat → Int) (j v x : Nat) : Bool := decide (∃ u, u < v ∧ mayS d t j u = true ∧ t (u + x) < (u : Int))
set_option maxHeartbeats 8000000 in
set_option maxRecDepth 100000 in
theorem refComplete_good (s : StV) (w : World) (h : StOK w s) (hok : s.ok = true) :
    Calls Try.prog 20 #[.agg s.cs.toArray] w fun e w' => e = .returned (.tuple #[.bool s.cmp, .int .i64 0]) ∧ Below w.heap.size w w' := by
  obtain ⟨⟨q1, q2, q3, q4⟩, hl⟩ := StV.parts hok
  obtain ⟨d, hd⟩ : ∃ d : Nat, s.b = (d : Int) := ⟨s.b.toNat, by omega⟩
  obtain ⟨u, hu⟩ : ∃ u : Nat, s.u = ((u + 2 : Nat) : Int) := ⟨s.u.toNat - 2, by omega⟩
  have hcmp : s.cmp = !mayS d s.th u d := by unfold StV.cmp; rw [hd, hu, Int.toNat_natCast, Int.toNat_natCast, Nat.add_sub_cancel]
  rw [hcmp]
  have HCK : Hid (∀ W, Below w.heap.size w W → Calls Try.prog 47 #[.agg s.cs.toArray] W fun e w' => e = .returned (.bool true) ∧ Below W.heap.size W w') := fun W hW => by
    have := refValidSteps_any s W (h.below hW)
    rwa [hok] at this
  have HTO : Hid (∀ W, Below w.heap.size w W → Calls Try.prog 49 #[.agg s.cs.toArray] W fun e w' => (∃ A c, e = .returned (.slice A (2 * d + 1) c) ∧ IR w' A c (thL s.th (2 * d + 1))) ∧ Below W.heap.size W w') := fun W hW => refThresholds_any s d W (h.below hW) hok hd
  have hks := h.k16
  obtain ⟨W0, hW0⟩ : ∃ W : World, W = w.alloc (.cells s.cs.toArray 51) := ⟨_, rfl⟩
  have b0 : Hid (Below w.heap.size w W0) := by unfold Hid; rw [hW0]; exact alloc_below _ _
  have x0 : Hid (Blk W0 w.heap.size 51 s.cs.toArray) := by unfold Hid; rw [hW0]; exact Blk.new w _ _
  have HW0 := Lib.hid hW0
  have HIN := Lib.hid (StV.info (s := s) hks)
  have HCL : Hid (∀ W, Below W0.heap.size W0 W → W.cell? ⟨w.heap.size, 0, none⟩ = some (.int .i64 ((u + 2 : Nat) : Int)) ∧ W.cell? ⟨w.heap.size, 1, none⟩ = some (.int .i64 (d : Int))) := fun W hW => by
    obtain ⟨g0, g1, _, _⟩ := StV.cells hks (x0.out.below' hW)
    rw [hu] at g0
    rw [hd] at g1
    exact ⟨g0, g1⟩
  have HTB : Hid (∀ k, -1 ≤ s.th k ∧ s.th k ≤ k) := fun k => ⟨thS_ge _ _ _ _, thS_le _ _ _ _⟩
  generalize s.th = t at *
  generalize s.cs.toArray = cs at *
  have hd1 : 1 ≤ d := by omega
  have hd2 : d ≤ 64 := by omega
  have hu2 : u ≤ 14 := by omega
  have hdi : (d : Int) ≤ 64 := by omega
  have hui : (u : Int) ≤ 14 := by omega
  have hd0 : (0 : Int) < (d : Int) + 1 := by omega
  obtain ⟨m, hm⟩ : ∃ m, d + 1 = m := ⟨_, rfl⟩
  have hmi : (m : Int) ≤ 65 := by omega
  have e1 : IntKind.i64.wrap ((d : Int) + 1) = (m : Int) := by rw [IntKind.wrap_i64]; omega
  have e1' : (d : Int) + 1 = (m : Int) := by omega
  have hmk : ∀ W : World, (Instr.makeSlice 90 (.int .i64 (m : Int)) (.int .i64 (m : Int))).run Try.prog W = .ok (.slice (some ⟨W.heap.size, 0, none⟩) m m) (W.alloc (.cells (cellsT m (fun _ => false)).toArray 4)) := fun W => by
    have := run_make_row' (P := Try.prog) 90 4 (.bool false) 1 Try.underlying90 (by kernel_rfl) rfl .i64 .i64 m (by omega) (by omega) W
    rwa [made_bools] at this
  clear hW0 hcmp h hok hl hks q1 q2 q3 q4 hd hu
  go_enter Try.func20, Try.ntmps20
  go_wp2_with (first
    | (rw [← HW0.out])
    | (refine wpList_load_row rfl 51 (.tmp 1) rfl (w.heap.size) rfl 51 cs (0, 0) _ x0.out Try.underlying51 rfl HIN.out ?_)
    | (refine wpList_load_row rfl 51 (.tmp 1) rfl (w.heap.size) rfl 51 cs (0, 0) _ x1.out Try.underlying51 rfl HIN.out ?_)
    | (go_at_call 47; (with_reducible refine (HCK.out _ b0.out).mono ?_); rintro e w1 ⟨rfl, hb⟩; have D1 := Lib.hid hb; have x1 := Lib.hid (x0.out.below' hb); clear hb)
    | (rw [← HW3.out])
    | (go_at_call 49; (with_reducible refine (HTO.out _ (bel_on b0.out D1.out)).mono ?_); rintro e w2 ⟨⟨TA, tc, rfl, ht⟩, hb⟩; obtain ⟨w3, hw3⟩ : ∃ W, W = w2.alloc (.cells (cellsT m (fun _ => false)).toArray 4) := ⟨_, rfl⟩; have T2 := Lib.hid ht; have D2 := Lib.hid (bel_on D1.out hb); have D3 : Hid (Below w2.heap.size w2 w3) := (by unfold Hid; rw [hw3]; exact alloc_bel _ _); have B3 : Hid (Blk w3 w2.heap.size 4 (cellsT m (fun _ => false)).toArray) := (by unfold Hid; rw [hw3]; exact Blk.new _ _ _); have HW3 := Lib.hid hw3; obtain ⟨c0, c1⟩ := HCL.out _ D2.out; have k3 := (B3.out.cell 0).trans (cellsT_get (by omega)); have f3 := B3.out.frozen 0; clear ht hb hw3))
  have B4 : Hid (Blk (w3.setCell ⟨w2.heap.size, 0, none⟩ (.bool true)) w2.heap.size 4 (cellsT m (mayS d t 0)).toArray) := by
    have := B3.out.set_ 0 (.bool true)
    rw [cellsT_put (by omega)] at this
    unfold Hid
    rwa [cellsT_congr (q := mayS d t 0) (fun i _ => by simp [mayS])] at this
  have D4 : Hid (Below w2.heap.size w2 (w3.setCell ⟨w2.heap.size, 0, none⟩ (.bool true))) := D3.out.setCell (p := ⟨w2.heap.size, 0, none⟩) (Nat.le_refl _) _
  obtain ⟨tb, tof, rfl, htb, _⟩ := T2.out.at_ (i := 0) (by rw [thL_length]; omega)
  have HT : Hid (∀ W, Below w2.heap.size w2 W → ∀ i, i ≤ 2 * d → W.cell? ⟨tb, tof + i, none⟩ = some (.int .i64 (t i))) := fun W hW i hi => by
    obtain ⟨b', o', e', _, hc⟩ := (T2.out.below hW).at_ (i := i) (by rw [thL_length]; omega)
    injection e' with e'
    injection e' with e1 e2
    subst e1 e2
    rwa [thL_it (by omega)] at hc
  have HCD : Hid (∀ W, Below w2.heap.size w2 W → W.cell? ⟨w.heap.size, 0, none⟩ = some (.int .i64 ((u + 2 : Nat) : Int)) ∧ W.cell? ⟨w.heap.size, 1, none⟩ = some (.int .i64 (d : Int))) := fun W hW => HCL.out _ (bel_on D2.out hW)
  have HBD := Lib.hid (bel_on b0.out D2.out)
  have e2 : IntKind.i64.wrap (((u + 2 : Nat) : Int) - 1) = (u : Int) + 1 := by rw [IntKind.wrap_i64]; omega
  have e2' : IntKind.i64.wrap ((u : Int) + 2 - 1) = (u : Int) + 1 := by rw [IntKind.wrap_i64]; omega
  clear k3 f3 c0 c1
  go_loopw [5, 6] (fun vm vj wr => ∃ (j g : Nat), j ≤ u ∧ vj = .int .i64 ((j : Int) + 1) ∧ vm = .slice (some ⟨g, 0, none⟩) m m ∧ Hid (w2.heap.size ≤ g) ∧ Hid (Blk wr g 4 (cellsT m (mayS d t j)).toArray) ∧ Below w2.heap.size w2 wr) (fun _ vj _ => u + 1 - (intOf vj).toNat)
  case atStart => exact ⟨0, _, by omega, rfl, rfl, Nat.le_refl _, B4.out, D4.out⟩
  case round =>
    obtain ⟨j, g, hj, rfl, rfl, HG, HB, hbel⟩ := hrel
    obtain ⟨c0, c1⟩ := HCD.out _ hbel
    by_cases hlt : j < u
    · have hji : (j : Int) + 1 < (u : Int) + 1 := by omega
      obtain ⟨g2, hg2⟩ : ∃ g2, wr.heap.size = g2 := ⟨_, rfl⟩
      obtain ⟨wm, hwm⟩ : ∃ wm, wm = wr.alloc (.cells (cellsT m (fun _ => false)).toArray 4) := ⟨_, rfl⟩
      have DM : Hid (Below w2.heap.size w2 wm) := by unfold Hid; rw [hwm]; exact bel_on hbel (alloc_bel _ _)
      have BM : Hid (Blk wm g 4 (cellsT m (mayS d t j)).toArray) := by unfold Hid; rw [hwm]; exact HB.out.alloc _
      have BN : Hid (Blk wm g2 4 (cellsT m (nextQ d t j 0)).toArray) := by
        unfold Hid
        rw [hwm, ← hg2, cellsT_congr (q := fun _ => false) (fun i _ => by simp [nextQ])]
        exact Blk.new _ _ _
      have HNE : Hid (g ≠ g2 ∧ w2.heap.size ≤ g2) := ⟨by have := HB.out.lt; omega, by have := hbel.size; omega⟩
      have hmk2 : (Instr.makeSlice 90 (.int .i64 (m : Int)) (.int .i64 (m : Int))).run Try.prog wr = .ok (.slice (some ⟨g2, 0, none⟩) m m) wm := by rw [hwm, ← hg2]; exact hmk wr
      clear hwm hg2 hmk
      go_wp2_with fail
      clear c0 c1
      go_loopw [8] (fun vv wr => ∃ v : Nat, v ≤ m ∧ vv = .int .i64 (v : Int) ∧ Hid (Blk wr g 4 (cellsT m (mayS d t j)).toArray) ∧ Hid (Blk wr g2 4 (cellsT m (nextQ d t j v)).toArray) ∧ Below w2.heap.size w2 wr) (fun vv _ => m - (intOf vv).toNat)
      case atStart => exact ⟨0, by omega, rfl, BM.out, BN.out, DM.out⟩
      case round =>
        obtain ⟨v, hv, rfl, HB1, HB2, hbel2⟩ := hrel
        obtain ⟨c0, c1⟩ := HCD.out _ hbel2
        by_cases hlt2 : v < m
        · have hvi : (v : Int) ≤ d := by omega
          go_wp2_with fail
          clear c0 c1
          go_loopw [9] (fun vx wr => ∃ x : Nat, x ≤ m ∧ vx = .int .i64 (x : Int) ∧ Hid (Blk wr g 4 (cellsT m (mayS d t j)).toArray) ∧ Hid (Blk wr g2 4 (cellsT m (fun y => if y < x then nextQ d t j (v + 1) y else nextQ d t j v y)).toArray) ∧ Below w2.heap.size w2 wr) (fun vx _ => m - (intOf vx).toNat)
          case atStart => exact ⟨0, by omega, rfl, HB1.out, by unfold Hid; rw [cellsT_congr (q := nextQ d t j v) (fun y _ => by simp)]; exact HB2.out, hbel2⟩
          case round =>
            obtain ⟨x, hx, rfl, HB3, HB4, hbel3⟩ := hrel
            obtain ⟨c0, c1⟩ := HCD.out _ hbel3
            by_cases hlt3 : x < m
            · have hxi : (x : Int) ≤ d := by omega
              have hxm : (x : Int) < m := by omega
              have hvm : (v : Int) < m := by omega
              have hx0 : (0 : Int) ≤ x := by omega
              have hv0 : (0 : Int) ≤ v := by omega
              obtain ⟨y, hy⟩ : ∃ y, v + x = y := ⟨_, rfl⟩
              have e3 : IntKind.i64.wrap ((v : Int) + (x : Int)) = (y : Int) := by rw [IntKind.wrap_i64]; omega
              have e3' : (v : Int) + (x : Int) = (y : Int) := by omega
              have hy1 : (y : Int) < 2 * (d : Int) + 1 := by omega
              have hy0 : (0 : Int) ≤ y := by omega
              have hct := HT.out _ hbel3 (v + x) (by omega)
              rw [hy] at hct
              have hcn := (HB4.out.cell x).trans (cellsT_get hlt3)
              simp only [Nat.lt_irrefl, if_false] at hcn
              have hcm := (HB3.out.cell v).trans (cellsT_get hlt2)
              have hfn := HB4.out.frozen x
              have hor := mayS_or (d := d) (t := t) (j := j) (v := v) (x := x)
              rw [hy] at hor
              have HST : Hid (∀ b, b = nextQ d t j (v + 1) x → Blk (wr.setCell ⟨g2, x, none⟩ (.bool b)) g2 4 (cellsT m (fun y => if y < x + 1 then nextQ d t j (v + 1) y else nextQ d t j v y)).toArray) := fun b hb => by
                have := HB4.out.set_ x (.bool b)
                rw [cellsT_put hlt3] at this
                rwa [cellsT_congr (q := fun y => if y < x + 1 then nextQ d t j (v + 1) y else nextQ d t j v y) (fun i _ => by
                  by_cases e : i = x
                  · subst e; rw [if_pos rfl, if_pos (by omega), hb]
                  · rw [if_neg e]
                    by_cases h : i < x
                    · rw [if_pos h, if_pos (by omega)]
                    · rw [if_neg h, if_neg (by omega)])] at this
              have hor' : (nextQ d t j v x || (mayS d t j v && decide (t y < (v : Int)))) = nextQ d t j (v + 1) x := hor
              obtain ⟨ty, hty⟩ : ∃ ty, t y = ty := ⟨_, rfl⟩
              rw [hty] at hct hor'
              obtain ⟨nv, hnv⟩ : ∃ b, nextQ d t j (v + 1) x = b := ⟨_, rfl⟩
              have HST2 := Lib.hid (fun b (hb : b = nv) => HST.out b (hb.trans hnv.symm))
              rw [hnv] at hor'
              have DN : Hid (∀ b, Below w2.heap.size w2 (wr.setCell ⟨g2, x, none⟩ (.bool b))) := fun b => hbel3.setCell (p := ⟨g2, x, none⟩) HNE.out.2 _
              have BK : Hid (∀ b, Blk (wr.setCell ⟨g2, x, none⟩ (.bool b)) g 4 (cellsT m (mayS d t j)).toArray) := fun b => HB3.out.far (p := ⟨g2, x, none⟩) HNE.out.1 _
              clear hor hty hnv HST hy
              generalize nextQ d t j v x = pn at hcn hor'
              generalize mayS d t j v = qn at hcm hor'
              cases pn with
              | true =>
                have hbv : true = nv := by rw [← hor']; rfl
                have HS1 := Lib.hid (HST2.out true hbv)
                clear hor' hbv
                go_wp2_with fail
                go_roundw
                case rel => exact ⟨x + 1, by omega, by go_num, BK.out true, HS1.out, DN.out true⟩
                case measure => simp [intOf]; omega
              | false =>
                cases qn with
                | false =>
                  have hbv : false = nv := by rw [← hor']; rfl
                  have HS1 := Lib.hid (HST2.out false hbv)
                  clear hor' hbv
                  go_wp2_with fail
                  go_roundw
                  case rel => exact ⟨x + 1, by omega, by go_num, BK.out false, HS1.out, DN.out false⟩
                  case measure => simp [intOf]; omega
                | true =>
                  have hbv : decide (ty < (v : Int)) = nv := by rw [← hor']; simp
                  have HS1 := Lib.hid (HST2.out _ hbv)
                  have DN1 := Lib.hid (DN.out (decide (ty < (v : Int))))
                  have BK1 := Lib.hid (BK.out (decide (ty < (v : Int))))
                  clear hor' hbv
                  generalize hdd : decide (ty < (v : Int)) = dd at HS1 DN1 BK1
                  go_wp2_with fail
                  go_roundw
                  case rel => exact ⟨x + 1, by omega, by go_num, BK1.out, HS1.out, DN1.out⟩
                  case measure => simp [intOf]; omega
            · obtain rfl : x = m := by omega
              have hx3 : ¬ ((x : Int) ≤ d) := by omega
              have HB5 : Hid (Blk wr g2 4 (cellsT x (nextQ d t j (v + 1))).toArray) := by
                have := HB4.out
                rwa [cellsT_congr (q := nextQ d t j (v + 1)) (fun y hy => by rw [if_pos hy])] at this
              go_wp2_with fail
              go_roundw
              case rel => exact ⟨v + 1, by omega, by go_num, HB3.out, HB5.out, hbel3⟩
              case measure => simp [intOf]; omega
        · obtain rfl : v = m := by omega
          have hx2 : ¬ ((v : Int) ≤ d) := by omega
          have HB5 : Hid (Blk wr g2 4 (cellsT v (mayS d t (j + 1))).toArray) := by
            have := HB2.out
            rwa [cellsT_congr (q := mayS d t (j + 1)) (fun y hy => by rw [← hm]; exact mayS_fin)] at this
          go_wp2_with fail
          go_roundw
          case rel => exact ⟨j + 1, g2, by omega, by go_num, rfl, HNE.out.2, HB5.out, hbel2⟩
          case measure => simp [intOf]; omega
    · obtain rfl : j = u := by omega
      have hx1 : ¬ ((j : Int) + 1 < (j : Int) + 1) := by omega
      have hdm : (d : Int) < m := by omega
      have hd00 : (0 : Int) ≤ d := by omega
      have hcm := (HB.out.cell d).trans (cellsT_get (by omega))
      go_wp2_with fail
      go_ret2
      exact ⟨rfl, bel_on HBD.out hbel⟩
end Go.Proofs.Ytenpkmgbaajeeaa

/- The law CodeTails: the walk. -/
namespace Go.Proofs.Ytenpkmgbaajeeaa
open Go.RowKit
set_option linter.unusedVariables false
set_option linter.unusedSimpArgs false

theorem frac2_open_ {W w' : World} {e : Ending} {r : (List Nat × List Nat) × Int} (h : Frac2 W w' e r) : ∃ X x Z z, e = .returned (.tuple #[.agg #[.slice X r.1.1.length x, .slice Z r.1.2.length z], .int .i64 r.2]) ∧ NR w' X x r.1.1 ∧ NR w' Z z r.1.2 ∧ Below W.heap.size W w' := by
  obtain ⟨v, rfl, X, x, Z, z, rfl, h1, h2, _, hb⟩ := h
  exact ⟨X, x, Z, z, rfl, h1.nr_, h2.nr_, hb⟩
set_option maxHeartbeats 8000000 in
set_option maxRecDepth 100000 in
theorem Complete_any (s : StV) (w : World) (h : StOK w s) :
    Calls Try.prog 19 #[.agg s.cs.toArray] w fun e w' => e = .returned (.tuple #[.bool (cmpSt s).1, .int .i64 (cmpSt s).2]) ∧ Below w.heap.size w w' := by
  cases hok : s.ok with
  | true =>
    have := complete_good s w h hok
    unfold cmpSt
    rw [hok]
    exact this
  | false =>
    have HCK : Hid (∀ W, Below w.heap.size w W → Calls Try.prog 45 #[.agg s.cs.toArray] W fun e w' => e = .returned (.int .i64 (ckSt s.ok)) ∧ Below W.heap.size W w') := fun W hW => CheckSteps_any s W (h.below hW)
    have hks := h.k16
    obtain ⟨W0, hW0⟩ : ∃ W : World, W = w.alloc (.cells s.cs.toArray 51) := ⟨_, rfl⟩
    have b0 : Hid (Below w.heap.size w W0) := by unfold Hid; rw [hW0]; exact alloc_below _ _
    have x0 : Hid (Blk W0 w.heap.size 51 s.cs.toArray) := by unfold Hid; rw [hW0]; exact Blk.new w _ _
    have HW0 := Lib.hid hW0
    have HIN := Lib.hid (StV.info (s := s) hks)
    have HS : Hid (cmpSt s = (false, 70)) := by unfold Hid cmpSt; rw [hok]; rfl
    rw [hok] at HCK
    rw [HS.out]
    generalize s.cs.toArray = cs at *
    clear hW0 h hks hok
    go_enter Try.func19, Try.ntmps19
    go_wp2_with (first
      | (rw [← HW0.out])
      | (refine wpList_load_row rfl 51 (.tmp 1) rfl (w.heap.size) rfl 51 cs (0, 0) _ x0.out Try.underlying51 rfl HIN.out ?_)
      | (go_at_call 45; (with_reducible refine (HCK.out _ b0.out).mono ?_); rintro e w1 ⟨rfl, hb⟩; have D1 := Lib.hid (bel_on b0.out hb); clear hb; simp only [ckSt]))
    go_ret2
    exact ⟨rfl, D1.out⟩
set_option maxHeartbeats 8000000 in
set_option maxRecDepth 100000 in
theorem refComplete_any (s : StV) (w : World) (h : StOK w s) :
    Calls Try.prog 20 #[.agg s.cs.toArray] w fun e w' => e = .returned (.tuple #[.bool (cmpSt s).1, .int .i64 (cmpSt s).2]) ∧ Below w.heap.size w w' := by
  cases hok : s.ok with
  | true =>
    have := refComplete_good s w h hok
    unfold cmpSt
    rw [hok]
    exact this
  | false =>
    have HCK : Hid (∀ W, Below w.heap.size w W → Calls Try.prog 47 #[.agg s.cs.toArray] W fun e w' => e = .returned (.bool s.ok) ∧ Below W.heap.size W w') := fun W hW => refValidSteps_any s W (h.below hW)
    have hks := h.k16
    obtain ⟨W0, hW0⟩ : ∃ W : World, W = w.alloc (.cells s.cs.toArray 51) := ⟨_, rfl⟩
    have b0 : Hid (Below w.heap.size w W0) := by unfold Hid; rw [hW0]; exact alloc_below _ _
    have x0 : Hid (Blk W0 w.heap.size 51 s.cs.toArray) := by unfold Hid; rw [hW0]; exact Blk.new w _ _
    have HW0 := Lib.hid hW0
    have HIN := Lib.hid (StV.info (s := s) hks)
    have HS : Hid (cmpSt s = (false, 70)) := by unfold Hid cmpSt; rw [hok]; rfl
    rw [hok] at HCK
    rw [HS.out]
    generalize s.cs.toArray = cs at *
    clear hW0 h hks hok
    go_enter Try.func20, Try.ntmps20
    go_wp2_with (first
      | (rw [← HW0.out])
      | (refine wpList_load_row rfl 51 (.tmp 1) rfl (w.heap.size) rfl 51 cs (0, 0) _ x0.out Try.underlying51 rfl HIN.out ?_)
      | (go_at_call 47; (with_reducible refine (HCK.out _ b0.out).mono ?_); rintro e w1 ⟨rfl, hb⟩; have D1 := Lib.hid (bel_on b0.out hb); clear hb; skip))
    go_ret2
    exact ⟨rfl, D1.out⟩
set_option maxHeartbeats 8000000 in
set_option maxRecDepth 100000 in
theorem codeTails_walk (d k x : Int) (s : StV) (w : World) (_ : -9223372036854775808 ≤ d) (_ : d ≤ 9223372036854775807) (_ : -9223372036854775808 ≤ k) (_ : k ≤ 9223372036854775807) (_ : -9223372036854775808 ≤ x) (_ : x ≤ 9223372036854775807) (h : StOK w s) :
    Calls Try.prog 5 #[.int .i64 d, .int .i64 k, .int .i64 x, .agg s.cs.toArray] w fun e w' => e = .returned (.bool true) ∧ Below w.heap.size w w' := by
  have HT1 : Hid (∀ W, Calls Try.prog 14 #[.int .i64 d, .int .i64 k, .int .i64 x] W fun e w' => ∃ X x' Z z, e = .returned (.tuple #[.agg #[.slice X (tailS d k x).1.1.length x', .slice Z (tailS d k x).1.2.length z], .int .i64 (tailS d k x).2]) ∧ NR w' X x' (tailS d k x).1.1 ∧ NR w' Z z (tailS d k x).1.2 ∧ Below W.heap.size W w') := fun W => (Tail_any d k x W).mono fun e w' h => frac2_open_ h
  have HT2 : Hid (∀ W, Calls Try.prog 15 #[.int .i64 d, .int .i64 k, .int .i64 x] W fun e w' => ∃ X x' Z z, e = .returned (.tuple #[.agg #[.slice X (tailS d k x).1.1.length x', .slice Z (tailS d k x).1.2.length z], .int .i64 (tailS d k x).2]) ∧ NR w' X x' (tailS d k x).1.1 ∧ NR w' Z z (tailS d k x).1.2 ∧ Below W.heap.size W w') := fun W => (refTail_any d k x W).mono fun e w' h => frac2_open_ h
  have HSF : Hid (∀ W X x' Z z X2 x2 Z2 z2, NR W X x' (tailS d k x).1.1 → NR W Z z (tailS d k x).1.2 → NR W X2 x2 (tailS d k x).1.1 → NR W Z2 z2 (tailS d k x).1.2 → Calls Try.prog 16 #[.agg #[.slice X (tailS d k x).1.1.length x', .slice Z (tailS d k x).1.2.length z], .agg #[.slice X2 (tailS d k x).1.1.length x2, .slice Z2 (tailS d k x).1.2.length z2]] W fun e w' => e = .returned (.bool true) ∧ Below W.heap.size W w') := fun W X x' Z z X2 x2 Z2 z2 a1 a2 a3 a4 => by
    have := SameFraction_any X x' _ Z z _ X2 x2 _ Z2 z2 _ W rfl rfl rfl rfl a1 a2 a3 a4
    rwa [sameB_self, sameB_self] at this
  have HH1 : Hid (∀ W, Below w.heap.size w W → Calls Try.prog 17 #[.agg s.cs.toArray, .int .i64 k] W fun e w' => e = .returned (.tuple #[.int .i64 (thrS s k).1, .int .i64 (thrS s k).2]) ∧ Below W.heap.size W w') := fun W hW => Threshold_any s k W (h.below hW)
  have HH2 : Hid (∀ W, Below w.heap.size w W → Calls Try.prog 18 #[.agg s.cs.toArray, .int .i64 k] W fun e w' => e = .returned (.tuple #[.int .i64 (thrS s k).1, .int .i64 (thrS s k).2]) ∧ Below W.heap.size W w') := fun W hW => refThreshold_any s k W (h.below hW)
  have HC1 : Hid (∀ W, Below w.heap.size w W → Calls Try.prog 19 #[.agg s.cs.toArray] W fun e w' => e = .returned (.tuple #[.bool (cmpSt s).1, .int .i64 (cmpSt s).2]) ∧ Below W.heap.size W w') := fun W hW => Complete_any s W (h.below hW)
  have HC2 : Hid (∀ W, Below w.heap.size w W → Calls Try.prog 20 #[.agg s.cs.toArray] W fun e w' => e = .returned (.tuple #[.bool (cmpSt s).1, .int .i64 (cmpSt s).2]) ∧ Below W.heap.size W w') := fun W hW => refComplete_any s W (h.below hW)
  have hks := h.k16
  obtain ⟨W0, hW0⟩ : ∃ W : World, W = w.alloc (.cells s.cs.toArray 51) := ⟨_, rfl⟩
  have b0 : Hid (Below w.heap.size w W0) := by unfold Hid; rw [hW0]; exact alloc_below _ _
  have x0 : Hid (Blk W0 w.heap.size 51 s.cs.toArray) := by unfold Hid; rw [hW0]; exact Blk.new w _ _
  have HW0 := Lib.hid hW0
  have HIN := Lib.hid (StV.info (s := s) hks)
  generalize s.cs.toArray = cs at *
  obtain ⟨r, hr⟩ : ∃ r, tailS d k x = r := ⟨_, rfl⟩
  rw [hr] at HT1 HT2 HSF
  obtain ⟨⟨p1, p2⟩, er⟩ := r
  dsimp only at HT1 HT2 HSF
  obtain ⟨q, hq⟩ : ∃ q, thrS s k = q := ⟨_, rfl⟩
  rw [hq] at HH1 HH2
  obtain ⟨q1, q2⟩ := q
  dsimp only at HH1 HH2
  obtain ⟨c, hc⟩ : ∃ q, cmpSt s = q := ⟨_, rfl⟩
  rw [hc] at HC1 HC2
  obtain ⟨c1, c2⟩ := c
  dsimp only at HC1 HC2
  generalize p1.length = n1 at *
  generalize p2.length = n2 at *
  clear hW0 h hks hr hq hc
  go_enter Try.func5, Try.ntmps5
  go_wp2_with (first
    | (rw [← HW0.out])
    | (go_at_call 14; (with_reducible refine (HT1.out _).mono ?_); rintro e w1 ⟨X1, x1, Z1, z1, rfl, g1, g2, hb⟩; have A1 := Lib.hid g1; have B1 := Lib.hid g2; have D1 := Lib.hid (bel_on b0.out hb); have S1 := Lib.hid (x0.out.below' hb); clear g1 g2 hb)
    | (refine wpList_store_row rfl 49 (.tmp 9) (.tmp 22) rfl w1.heap.size #[.slice X1 n1 x1, .slice Z1 n2 z1] rfl rfl 49 #[.slice none 0 0, .slice none 0 0] (Blk.new w1 _ _) (by kernel_rfl) rfl (by simp [Value.oneCell']) ?_; obtain ⟨w2, hV⟩ : ∃ W, W = (w1.alloc (.cells #[.slice none 0 0, .slice none 0 0] 49)).setRow w1.heap.size #[.slice X1 n1 x1, .slice Z1 n2 z1] := ⟨_, rfl⟩; rw [← hV]; obtain ⟨gb, nb⟩ := box2_ _ _ _ _ hV; have D2 := Lib.hid (bel_on D1.out gb); have A2 := Lib.hid (A1.out.below gb); have B2 := Lib.hid (B1.out.below gb); have S2 := Lib.hid (S1.out.below' gb); have G2 := Lib.hid nb; clear hV gb nb)
    | (go_at_call 15; (with_reducible refine (HT2.out _).mono ?_); rintro e w3 ⟨X3, x3, Z3, z3, rfl, g1, g2, hb⟩; have C3 := Lib.hid g1; have E3 := Lib.hid g2; have D3 := Lib.hid (bel_on D2.out hb); have A3 := Lib.hid (A2.out.below hb); have B3 := Lib.hid (B2.out.below hb); have S3 := Lib.hid (S2.out.below' hb); have G3 := Lib.hid (G2.out.below' hb); clear g1 g2 hb)
    | (refine wpList_store_row rfl 49 (.tmp 11) (.tmp 29) rfl w3.heap.size #[.slice X3 n1 x3, .slice Z3 n2 z3] rfl rfl 49 #[.slice none 0 0, .slice none 0 0] (Blk.new w3 _ _) (by kernel_rfl) rfl (by simp [Value.oneCell']) ?_; obtain ⟨w4, hV⟩ : ∃ W, W = (w3.alloc (.cells #[.slice none 0 0, .slice none 0 0] 49)).setRow w3.heap.size #[.slice X3 n1 x3, .slice Z3 n2 z3] := ⟨_, rfl⟩; rw [← hV]; obtain ⟨gb, nb⟩ := box2_ _ _ _ _ hV; have D4 := Lib.hid (bel_on D3.out gb); have A4 := Lib.hid (A3.out.below gb); have B4 := Lib.hid (B3.out.below gb); have C4 := Lib.hid (C3.out.below gb); have E4 := Lib.hid (E3.out.below gb); have S4 := Lib.hid (S3.out.below' gb); have G4 := Lib.hid (G3.out.below' gb); have H4 := Lib.hid nb; clear hV gb nb)
    | (refine wpList_load_row rfl 49 (.tmp 9) rfl (w1.heap.size) rfl 49 #[.slice X1 n1 x1, .slice Z1 n2 z1] (0, 0) _ G4.out Try.underlying49 rfl (by kernel_rfl) ?_)
    | (refine wpList_load_row rfl 49 (.tmp 11) rfl (w3.heap.size) rfl 49 #[.slice X3 n1 x3, .slice Z3 n2 z3] (0, 0) _ H4.out Try.underlying49 rfl (by kernel_rfl) ?_)
    | (go_at_call 16; (with_reducible refine (HSF.out _ _ _ _ _ _ _ _ _ A4.out B4.out C4.out E4.out).mono ?_); rintro e w5 ⟨rfl, hb⟩; have D5 := Lib.hid (bel_on D4.out hb); have S5 := Lib.hid (S4.out.below' hb); clear hb)
    | (refine wpList_load_row rfl 51 (.tmp 7) rfl (w.heap.size) rfl 51 cs (0, 0) _ S5.out Try.underlying51 rfl HIN.out ?_)
    | (go_at_call 17; (with_reducible refine (HH1.out _ D5.out).mono ?_); rintro e w6 ⟨rfl, hb⟩; have D6 := Lib.hid (bel_on D5.out hb); have S6 := Lib.hid (S5.out.below' hb); clear hb)
    | (refine wpList_load_row rfl 51 (.tmp 7) rfl (w.heap.size) rfl 51 cs (0, 0) _ S6.out Try.underlying51 rfl HIN.out ?_)
    | (go_at_call 18; (with_reducible refine (HH2.out _ D6.out).mono ?_); rintro e w7 ⟨rfl, hb⟩; have D7 := Lib.hid (bel_on D6.out hb); have S7 := Lib.hid (S6.out.below' hb); clear hb)
    | (refine wpList_load_row rfl 51 (.tmp 7) rfl (w.heap.size) rfl 51 cs (0, 0) _ S7.out Try.underlying51 rfl HIN.out ?_)
    | (go_at_call 19; (with_reducible refine (HC1.out _ D7.out).mono ?_); rintro e w8 ⟨rfl, hb⟩; have D8 := Lib.hid (bel_on D7.out hb); have S8 := Lib.hid (S7.out.below' hb); clear hb)
    | (refine wpList_load_row rfl 51 (.tmp 7) rfl (w.heap.size) rfl 51 cs (0, 0) _ S8.out Try.underlying51 rfl HIN.out ?_)
    | (go_at_call 20; (with_reducible refine (HC2.out _ D8.out).mono ?_); rintro e w9 ⟨rfl, hb⟩; have D9 := Lib.hid (bel_on D8.out hb); clear hb))
  go_ret
  exact ⟨by simp, D9.out⟩
end Go.Proofs.Ytenpkmgbaajeeaa
