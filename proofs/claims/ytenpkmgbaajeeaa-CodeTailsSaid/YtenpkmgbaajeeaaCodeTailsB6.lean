/-
  Lemmas and contracts, joined: part 6.
-/
import Derived.Lib.SmallJoins
import Derived.ChangeSame
import Derived.Test.YtenpkmgbaajeeaaCodeTailsB5
set_option linter.unusedSimpArgs false
set_option linter.unusedVariables false
set_option linter.unnecessarySimpa false
/- What the frames of the laws share: a code of steps among the arguments, opened. -/
namespace Go.Proofs.Ytenpkmgbaajeeaa
open Go.ChangeShapes Go.WideShapes Go.ChangeAt Go.RowKit Go.Deep
set_option linter.unusedVariables false

theorem cells_keyT : Try.prog.cellsOf 32 = 16 := by kernel_rfl
theorem cells_fracT : Try.prog.cellsOf 49 = 2 := by kernel_rfl
theorem cells_natT : Try.prog.cellsOf 47 = 1 := by kernel_rfl
theorem cells_stepsT : Try.prog.cellsOf 51 = 20 := by kernel_rfl
/-- A fraction, among cells. -/
theorem frac_of_trod {H : Type} {enc : TypeId × Value → H} {W : World} {fuel : Nat} {cs : List Value} {x : DataW H × List MemPlace} (h : DataW.trod enc Try.prog W 0 (fun _ => true) true fuel 49 cs = some x)
    (hw : ∀ n ∈ x.1.weights Try.prog 49, n ≤ reachBytes) : ∃ A c a B e b, cs = [.slice A (List.length a) c, .slice B (List.length b) e] ∧ NR W A c a ∧ NR W B e b := by
  obtain ⟨y0, y1, n, rfl, hl, h0, h1⟩ := trod_struct2 Try.underlying49 h
  have hw' : ∀ n ∈ DataW.weightsEach Try.prog [47, 47] [y0.1, y1.1], n ≤ reachBytes := by simpa [DataW.weights, Try.underlying49] using hw
  dsimp only at h0 h1
  rw [cells_natT] at h0 h1
  rw [cells_fracT] at hl
  obtain ⟨A, c, a, e1, hx⟩ := nat_of_trod h0 (fun m hm => hw' m (DataW.weights_mem_each (j := 0) rfl rfl m hm))
  obtain ⟨B, e, b, e2, hy⟩ := nat_of_trod h1 (fun m hm => hw' m (DataW.weights_mem_each (j := 1) rfl rfl m hm))
  refine ⟨A, c, a, B, e, b, ?_, hx, hy⟩
  match cs, hl with
  | [c0, c1], _ =>
    simp at e1 e2
    rw [e1, e2]
/-- A code of steps, among cells. -/
theorem steps_of_trod {H : Type} {enc : TypeId × Value → H} {W : World} {fuel : Nat} {cs : List Value} {x : DataW H × List MemPlace} (h : DataW.trod enc Try.prog W 0 (fun _ => true) true fuel 51 cs = some x)
    (hw : ∀ n ∈ x.1.weights Try.prog 51, n ≤ reachBytes) : ∃ s : StV, cs = s.cs ∧ StOK W s ∧ (-9223372036854775808 ≤ s.u ∧ s.u ≤ 9223372036854775807) ∧ (-9223372036854775808 ≤ s.b ∧ s.b ≤ 9223372036854775807) := by
  obtain ⟨y0, y1, y2, y3, n, rfl, hl, h0, h1, h2, h3⟩ := Go.Joins.trod_struct4 Try.underlying51 h
  have hw' : ∀ n ∈ DataW.weightsEach Try.prog [3, 3, 32, 49] [y0.1, y1.1, y2.1, y3.1], n ≤ reachBytes := by simpa [DataW.weights, Try.underlying51] using hw
  dsimp only at h0 h1 h2 h3
  rw [cells_int] at h0 h1
  rw [cells_keyT] at h2
  rw [cells_fracT] at h3
  rw [cells_stepsT] at hl
  obtain ⟨u, e0, hu⟩ := int_of_trod h0
  obtain ⟨b, e1, hb⟩ := int_of_trod h1
  obtain ⟨k, hk, e2⟩ := key_of_trod h2
  obtain ⟨A, c, a, B, e, d, e3, hx, hy⟩ := frac_of_trod h3 (fun m hm => hw' m (DataW.weights_mem_each (j := 3) rfl rfl m hm))
  refine ⟨⟨u, b, k, A, c, a, B, e, d⟩, ?_, ⟨hk, hx, hy⟩, hu, hb⟩
  match cs, hl with
  | c0 :: c1 :: r, hl =>
    simp at e0 e1
    have hr : r.length = 18 := by simpa using hl
    have a2 : List.take 16 r = cellsB k := by simpa using e2
    have a3 : List.drop 16 r = [.slice A a.length c, .slice B d.length e] := by
      rw [← e3]
      have e5 : List.drop (1 + 1 + 16) (c0 :: c1 :: r) = List.drop 16 r := rfl
      first
        | (rw [e5, List.take_of_length_le (by simp; omega)])
        | (simp only [List.drop_succ_cons, List.drop_zero, Nat.reduceAdd]; rw [List.take_of_length_le (by simp; omega)])
    rw [e0, e1, ← List.take_append_drop 16 r, a2, a3]
    rfl
set_option maxRecDepth 100000 in
theorem open_steps {H : Type} {enc : TypeId × Value → H} {W : World} {b0 : Nat} {v : Value} {d : DataW H} {ps : List MemPlace} (hval : Value.okWide Try.prog W .any b0 51 v) (hd : DataW.Trod enc Try.prog W 0 (fun _ => true) true 51 v d ps)
    (hw : ∀ n ∈ d.weights Try.prog 51, n ≤ reachBytes) : ∃ s : StV, v = .agg s.cs.toArray ∧ StOK W s ∧ (-9223372036854775808 ≤ s.u ∧ s.u ≤ 9223372036854775807) ∧ (-9223372036854775808 ≤ s.b ∧ s.b ≤ 9223372036854775807) := by
  obtain ⟨cs, rfl, hsz⟩ := okWide_struct Try.underlying51 hval
  obtain ⟨fuel, hf⟩ := hd
  obtain ⟨s, e, h1, h2, h3⟩ := steps_of_trod hf hw
  refine ⟨s, ?_, h1, h2, h3⟩
  rw [← e]
  simp [Value.cells]
end Go.Proofs.Ytenpkmgbaajeeaa

/- Whether a of b is at most a limit: both sides. -/
namespace Go.Proofs.Ytenpkmgbaajeeaa
open Go.RowKit
set_option linter.unusedVariables false
set_option linter.unusedSimpArgs false

theorem valid_digs_ {a : List Nat} (h : validB a = true) (hd : Dig a) : digs (val a) = a := digs_val hd (validB_iff.1 h).2
theorem sm_times {a b : Nat} (ha : (digs a).length ≤ 12) (hb : (digs b).length ≤ 4) : Sm (a * b) := by
  have h1 : a < 4294967296 ^ 12 := by
    exact Nat.lt_of_lt_of_le (lt_of_digs_len (Nat.le_refl _)) (Nat.pow_le_pow_right (by omega) ha)
  have h2 : b < 4294967296 ^ 4 := by
    exact Nat.lt_of_lt_of_le (lt_of_digs_len (Nat.le_refl _)) (Nat.pow_le_pow_right (by omega) hb)
  refine digs_len_le (k := 16) ?_
  have := Nat.mul_lt_mul_of_lt_of_lt h1 h2
  rwa [← Nat.pow_add] at this
theorem limB_sm {x y : List Nat} (h : limB x y = true) : validB x = true ∧ validB y = true ∧ x.length ≤ 4 ∧ y.length ≤ 4 ∧ val x < val y := by
  obtain ⟨h1, h2, h3, h4⟩ := limB_iff.1 h
  have := vfB_both h1
  unfold bothB at this
  simp at this
  exact ⟨this.1, this.2, h2, h3, h4⟩

set_option maxHeartbeats 4000000 in
set_option maxRecDepth 100000 in
theorem within_any (a z : Nat) (A : Option Addr) (ca : Nat) (Z : Option Addr) (cz : Nat) (X : Option Addr) (cx : Nat) (x : List Nat) (Y : Option Addr) (cy : Nat) (y : List Nat) (w : World) {la lz lx ly : Nat} (hla : (digs a).length = la) (hlz : (digs z).length = lz) (hlx : x.length = lx) (hly : y.length = ly) (ha : NR w A ca (digs a)) (hz : NR w Z cz (digs z)) (hx : NR w X cx x) (hy : NR w Y cy y) (hl : limB x y = true) (h1 : la ≤ 12) (h2 : lz ≤ 12) :
    Calls Try.prog 72 #[.slice A la ca, .slice Z lz cz, .agg #[.slice X lx cx, .slice Y ly cy]] w fun e w' => e = .returned (.bool (decide (a * val y ≤ val x * z))) ∧ Below w.heap.size w w' := by
  obtain ⟨v1, v2, l1, l2, hlt⟩ := limB_sm hl
  have ex : digs (val x) = x := valid_digs_ v1 hx.dig
  have ey : digs (val y) = y := valid_digs_ v2 hy.dig
  have s1 : Sm (a * val y) := sm_times (by omega) (by rw [ey]; exact l2)
  have s2 : Sm (val x * z) := by rw [Nat.mul_comm]; exact sm_times (by omega) (by rw [ex]; exact l1)
  have sa : Sm a := by unfold Sm; omega
  have sz : Sm z := by unfold Sm; omega
  have sx : Sm (val x) := by unfold Sm; rw [ex]; omega
  have sy : Sm (val y) := by unfold Sm; rw [ey]; omega
  obtain ⟨lp, hlp⟩ : ∃ l, (digs (a * val y)).length = l := ⟨_, rfl⟩
  obtain ⟨lq, hlq⟩ : ∃ l, (digs (val x * z)).length = l := ⟨_, rfl⟩
  have HM1 : Hid (∀ W, Below w.heap.size w W → Calls Try.prog 63 #[.slice A la ca, .slice Y ly cy] W fun e w' => (∃ P p, e = .returned (.tuple #[.slice P lp p, .int .i64 0]) ∧ NR w' P p (digs (a * val y))) ∧ Below W.heap.size W w') := fun W hW => by
    rw [← hlp]
    exact mulD_any s1 sa sy hla (by rw [ey]; exact hly) (ha.below hW) (by rw [ey]; exact hy.below hW)
  have HM2 : Hid (∀ W, Below w.heap.size w W → Calls Try.prog 63 #[.slice X lx cx, .slice Z lz cz] W fun e w' => (∃ P p, e = .returned (.tuple #[.slice P lq p, .int .i64 0]) ∧ NR w' P p (digs (val x * z))) ∧ Below W.heap.size W w') := fun W hW => by
    rw [← hlq]
    exact mulD_any s2 sx sz (by rw [ex]; exact hlx) hlz (by rw [ex]; exact hx.below hW) (hz.below hW)
  obtain ⟨c, hc⟩ : ∃ c, cmpN (a * val y) (val x * z) = c := ⟨_, rfl⟩
  have HCM : Hid (∀ W P p Q q, NR W P p (digs (a * val y)) → NR W Q q (digs (val x * z)) → Calls Try.prog 98 #[.slice P lp p, .slice Q lq q] W fun e w' => e = .returned (.tuple #[.int .i64 c, .int .i64 0]) ∧ Below W.heap.size W w') := fun W P p Q q g1 g2 => by
    have := Compare_any P p _ Q q _ W hlp hlq g1 g2
    rw [cmpS_both (s1.two s2), val_digs, val_digs, hc] at this
    exact this
  have HT : Hid (decide (c ≤ 0) = decide (a * val y ≤ val x * z)) := by unfold Hid; rw [← hc]; exact cmpN_nonpos _ _
  have HMU : Hid (∀ A n c W, Calls Try.prog 36 #[.slice A n c, .int .i64 0] W fun e w' => e = .returned (.slice A n c) ∧ Below W.heap.size W w') := fun A n c W => must_any A n c 0 W
  generalize digs (a * val y) = dp at HM1 HCM
  generalize digs (val x * z) = dq at HM2 HCM
  generalize decide (a * val y ≤ val x * z) = r at HT ⊢
  obtain ⟨W0, hW0⟩ : ∃ W, W = w.alloc (.cells #[.slice X lx cx, .slice Y ly cy] 49) := ⟨_, rfl⟩
  have b0 : Hid (Below w.heap.size w W0) := by unfold Hid; rw [hW0]; exact alloc_bel w _
  have Q0 : Hid (Blk W0 w.heap.size 49 #[.slice X lx cx, .slice Y ly cy]) := by unfold Hid; rw [hW0]; exact Blk.new w _ _
  have HW0 := Lib.hid hW0
  clear hW0 hla hlz hlx hly ha hz hx hy hl h1 h2 v1 v2 l1 l2 hlt ex ey s1 s2 sa sz sx sy hlp hlq hc
  go_enter Try.func72, Try.ntmps72
  go_wp2_with fail
  rw [← HW0.out]

  have HS : Hid (∀ W, Below W0.heap.size W0 W → W.cell? ⟨w.heap.size, 0, none⟩ = some (.slice X lx cx) ∧ W.cell? ⟨w.heap.size, 1, none⟩ = some (.slice Y ly cy)) := fun W hW => ⟨(Q0.out.below' hW).cell 0, (Q0.out.below' hW).cell 1⟩
  have E0 : Below W0.heap.size W0 W0 := Below.refl _ _
  refine wp_region_noPanic ?_
  refine wp_region_held_drew (S := fun W => W.cell? ⟨w.heap.size, 0, none⟩ = some (.slice X lx cx) ∧ W.cell? ⟨w.heap.size, 1, none⟩ = some (.slice Y ly cy)) (by kernel_rfl) (HS.out _ E0.drew) (fun hS => ?_)
  have E0 := E0.drew
  refine hd_take 0 (_) rfl rfl (by kernel_rfl) (by kernel_rfl) (by kernel_rfl) (fun _ _ _ h => h) (fun w hw => by go_simp <;> rfl) hS ?_
  simp only [List.getElem_toArray, List.getElem_cons_succ, List.getElem_cons_zero, Act.put, List.setIfInBounds_toArray, List.set_cons_zero, List.set_cons_succ]
  refine hd_take 1 (_) rfl rfl (by kernel_rfl) (by kernel_rfl) (by kernel_rfl) (fun _ _ _ h => h) (fun w hw => by go_simp <;> rfl) hS ?_
  simp only [List.getElem_toArray, List.getElem_cons_succ, List.getElem_cons_zero, Act.put, List.setIfInBounds_toArray, List.set_cons_zero, List.set_cons_succ]
  refine hd_take 2 (.slice Y ly cy) rfl rfl (by kernel_rfl) (by kernel_rfl) (by kernel_rfl) (fun _ _ _ h => h) (fun w hw => by have hx := hw.2; simp [go_sem, hx]) hS ?_
  simp only [List.getElem_toArray, List.getElem_cons_succ, List.getElem_cons_zero, Act.put, List.setIfInBounds_toArray, List.set_cons_zero, List.set_cons_succ]
  refine hd_take 7 (_) rfl rfl (by kernel_rfl) (by kernel_rfl) (by kernel_rfl) (fun _ _ _ h => h) (fun w hw => by go_simp <;> rfl) hS ?_
  simp only [List.getElem_toArray, List.getElem_cons_succ, List.getElem_cons_zero, Act.put, List.setIfInBounds_toArray, List.set_cons_zero, List.set_cons_succ]
  refine hd_take 8 (.slice X lx cx) rfl rfl (by kernel_rfl) (by kernel_rfl) (by kernel_rfl) (fun _ _ _ h => h) (fun w hw => by have hx := hw.1; simp [go_sem, hx]) hS ?_
  simp only [List.getElem_toArray, List.getElem_cons_succ, List.getElem_cons_zero, Act.put, List.setIfInBounds_toArray, List.set_cons_zero, List.set_cons_succ]
  refine hd_take 9 (_) rfl rfl (by kernel_rfl) (by kernel_rfl) (by kernel_rfl) (fun _ _ _ h => h) (fun w hw => by go_simp <;> rfl) hS ?_
  simp only [List.getElem_toArray, List.getElem_cons_succ, List.getElem_cons_zero, Act.put, List.setIfInBounds_toArray, List.set_cons_zero, List.set_cons_succ]
  refine hd_calls 3 63 #[.slice A la ca, .slice Y ly cy] rfl rfl (by kernel_rfl) (by go_simp <;> rfl) ?_
  refine (HM1.out _ (bel_on b0.out E0)).mono ?_
  rintro e y1 ⟨⟨oA, oc, rfl, ho⟩, hb⟩
  have E1_ := bel_on E0 hb
  have hS1_ := HS.out _ E1_
  clear hb
  refine ⟨_, rfl, hS1_, ?_⟩
  simp only [List.getElem_toArray, List.getElem_cons_succ, List.getElem_cons_zero, Act.put, List.setIfInBounds_toArray, List.set_cons_zero, List.set_cons_succ]
  refine hd_take 4 (_) rfl rfl (by kernel_rfl) (by kernel_rfl) (by kernel_rfl) (fun _ _ _ h => h) (fun w hw => by go_simp <;> rfl) hS1_ ?_
  simp only [List.getElem_toArray, List.getElem_cons_succ, List.getElem_cons_zero, Act.put, List.setIfInBounds_toArray, List.set_cons_zero, List.set_cons_succ]
  refine hd_take 5 (_) rfl rfl (by kernel_rfl) (by kernel_rfl) (by kernel_rfl) (fun _ _ _ h => h) (fun w hw => by go_simp <;> rfl) hS1_ ?_
  simp only [List.getElem_toArray, List.getElem_cons_succ, List.getElem_cons_zero, Act.put, List.setIfInBounds_toArray, List.set_cons_zero, List.set_cons_succ]
  refine hd_calls 6 36 #[.slice oA lp oc, .int .i64 0] rfl rfl (by kernel_rfl) (by go_simp <;> rfl) ?_
  refine (HMU.out _ _ _ _).mono ?_
  rintro e y2 ⟨rfl, hb⟩
  have E2_ := bel_on E1_ hb
  have hS2_ := HS.out _ E2_
  have ho := ho.below hb
  clear hb
  refine ⟨_, rfl, hS2_, ?_⟩
  simp only [List.getElem_toArray, List.getElem_cons_succ, List.getElem_cons_zero, Act.put, List.setIfInBounds_toArray, List.set_cons_zero, List.set_cons_succ]
  refine hd_calls 10 63 #[.slice X lx cx, .slice Z lz cz] rfl rfl (by kernel_rfl) (by go_simp <;> rfl) ?_
  refine (HM2.out _ (bel_on b0.out E2_)).mono ?_
  rintro e y3 ⟨⟨qA, qc, rfl, hq⟩, hb⟩
  have E3_ := bel_on E2_ hb
  have hS3_ := HS.out _ E3_
  have ho := ho.below hb
  clear hb
  refine ⟨_, rfl, hS3_, ?_⟩
  simp only [List.getElem_toArray, List.getElem_cons_succ, List.getElem_cons_zero, Act.put, List.setIfInBounds_toArray, List.set_cons_zero, List.set_cons_succ]
  refine hd_take 11 (_) rfl rfl (by kernel_rfl) (by kernel_rfl) (by kernel_rfl) (fun _ _ _ h => h) (fun w hw => by go_simp <;> rfl) hS3_ ?_
  simp only [List.getElem_toArray, List.getElem_cons_succ, List.getElem_cons_zero, Act.put, List.setIfInBounds_toArray, List.set_cons_zero, List.set_cons_succ]
  refine hd_take 12 (_) rfl rfl (by kernel_rfl) (by kernel_rfl) (by kernel_rfl) (fun _ _ _ h => h) (fun w hw => by go_simp <;> rfl) hS3_ ?_
  simp only [List.getElem_toArray, List.getElem_cons_succ, List.getElem_cons_zero, Act.put, List.setIfInBounds_toArray, List.set_cons_zero, List.set_cons_succ]
  refine hd_calls 13 36 #[.slice qA lq qc, .int .i64 0] rfl rfl (by kernel_rfl) (by go_simp <;> rfl) ?_
  refine (HMU.out _ _ _ _).mono ?_
  rintro e y4 ⟨rfl, hb⟩
  have E4_ := bel_on E3_ hb
  have hS4_ := HS.out _ E4_
  have ho := ho.below hb
  have hq := hq.below hb
  clear hb
  refine ⟨_, rfl, hS4_, ?_⟩
  simp only [List.getElem_toArray, List.getElem_cons_succ, List.getElem_cons_zero, Act.put, List.setIfInBounds_toArray, List.set_cons_zero, List.set_cons_succ]
  refine hd_calls 14 98 #[.slice oA lp oc, .slice qA lq qc] rfl rfl (by kernel_rfl) (by go_simp <;> rfl) ?_
  refine (HCM.out _ _ _ _ _ ho hq).mono ?_
  rintro e y5 ⟨rfl, hb⟩
  have E5_ := bel_on E4_ hb
  have hS5_ := HS.out _ E5_
  clear hb
  refine ⟨_, rfl, hS5_, ?_⟩
  simp only [List.getElem_toArray, List.getElem_cons_succ, List.getElem_cons_zero, Act.put, List.setIfInBounds_toArray, List.set_cons_zero, List.set_cons_succ]
  refine hd_take 15 (_) rfl rfl (by kernel_rfl) (by kernel_rfl) (by kernel_rfl) (fun _ _ _ h => h) (fun w hw => by go_simp <;> rfl) hS5_ ?_
  simp only [List.getElem_toArray, List.getElem_cons_succ, List.getElem_cons_zero, Act.put, List.setIfInBounds_toArray, List.set_cons_zero, List.set_cons_succ]
  refine hd_take 16 (_) rfl rfl (by kernel_rfl) (by kernel_rfl) (by kernel_rfl) (fun _ _ _ h => h) (fun w hw => by go_simp <;> rfl) hS5_ ?_
  simp only [List.getElem_toArray, List.getElem_cons_succ, List.getElem_cons_zero, Act.put, List.setIfInBounds_toArray, List.set_cons_zero, List.set_cons_succ]
  refine hd_take 17 (_) rfl rfl (by kernel_rfl) (by kernel_rfl) (by kernel_rfl) (fun _ _ _ h => h) (fun w hw => by go_simp <;> rfl) hS5_ ?_
  simp only [List.getElem_toArray, List.getElem_cons_succ, List.getElem_cons_zero, Act.put, List.setIfInBounds_toArray, List.set_cons_zero, List.set_cons_succ]
  refine hd_take 18 (_) rfl rfl (by kernel_rfl) (by kernel_rfl) (by kernel_rfl) (fun _ _ _ h => h) (fun w hw => by go_simp <;> rfl) hS5_ ?_
  simp only [List.getElem_toArray, List.getElem_cons_succ, List.getElem_cons_zero, Act.put, List.setIfInBounds_toArray, List.set_cons_zero, List.set_cons_succ]
  refine hd_take 19 (_) rfl rfl (by kernel_rfl) (by kernel_rfl) (by kernel_rfl) (fun _ _ _ h => h) (fun w hw => by go_simp <;> rfl) hS5_ ?_
  simp only [List.getElem_toArray, List.getElem_cons_succ, List.getElem_cons_zero, Act.put, List.setIfInBounds_toArray, List.set_cons_zero, List.set_cons_succ]
  refine wpAnyH_done (by kernel_rfl) (NoPanic.normal ?_) _
  go_wp2_with fail
  go_ret
  refine ⟨?_, bel_on b0.out E5_⟩
  rw [← HT.out]
  rfl
set_option maxHeartbeats 4000000 in
set_option maxRecDepth 100000 in
theorem refWithin_any (a z : Nat) (A : Option Addr) (ca : Nat) (Z : Option Addr) (cz : Nat) (X : Option Addr) (cx : Nat) (x : List Nat) (Y : Option Addr) (cy : Nat) (y : List Nat) (w : World) {la lz lx ly : Nat} (hla : (digs a).length = la) (hlz : (digs z).length = lz) (hlx : x.length = lx) (hly : y.length = ly) (ha : NR w A ca (digs a)) (hz : NR w Z cz (digs z)) (hx : NR w X cx x) (hy : NR w Y cy y) (hl : limB x y = true) (h1 : la ≤ 12) (h2 : lz ≤ 12) :
    Calls Try.prog 74 #[.slice A la ca, .slice Z lz cz, .agg #[.slice X lx cx, .slice Y ly cy]] w fun e w' => e = .returned (.bool (decide (a * val y ≤ val x * z))) ∧ Below w.heap.size w w' := by
  obtain ⟨v1, v2, l1, l2, hlt⟩ := limB_sm hl
  have ex : digs (val x) = x := valid_digs_ v1 hx.dig
  have ey : digs (val y) = y := valid_digs_ v2 hy.dig
  have sa : Sm a := by unfold Sm; omega
  have sz : Sm z := by unfold Sm; omega
  have sx : Sm (val x) := by unfold Sm; rw [ex]; omega
  have sy : Sm (val y) := by unfold Sm; rw [ey]; omega
  obtain ⟨lp, hlp⟩ : ∃ l, (digs (a * val y)).length = l := ⟨_, rfl⟩
  obtain ⟨lq, hlq⟩ : ∃ l, (digs (val x * z)).length = l := ⟨_, rfl⟩
  have HM1 : Hid (∀ W, Below w.heap.size w W → Calls Try.prog 69 #[.slice A la ca, .slice Y ly cy] W fun e w' => (∃ P p, e = .returned (.slice P lp p) ∧ NR w' P p (digs (a * val y))) ∧ Below W.heap.size W w') := fun W hW => by
    rw [← hlp]
    exact timesD_any sa sy hla (by rw [ey]; exact hly) (ha.below hW) (by rw [ey]; exact hy.below hW)
  have HM2 : Hid (∀ W, Below w.heap.size w W → Calls Try.prog 69 #[.slice X lx cx, .slice Z lz cz] W fun e w' => (∃ P p, e = .returned (.slice P lq p) ∧ NR w' P p (digs (val x * z))) ∧ Below W.heap.size W w') := fun W hW => by
    rw [← hlq]
    exact timesD_any sx sz (by rw [ex]; exact hlx) hlz (by rw [ex]; exact hx.below hW) (hz.below hW)
  obtain ⟨c, hc⟩ : ∃ c, cmpN (a * val y) (val x * z) = c := ⟨_, rfl⟩
  have HCM : Hid (∀ W P p Q q, NR W P p (digs (a * val y)) → NR W Q q (digs (val x * z)) → Calls Try.prog 94 #[.slice P lp p, .slice Q lq q] W fun e w' => e = .returned (.int .i64 c) ∧ Below W.heap.size W w') := fun W P p Q q g1 g2 => by
    have := refOrder_any P p _ Q q _ W hlp hlq g1 g2
    rw [val_digs, val_digs, hc] at this
    exact this.mono fun e w' ⟨h1, h2⟩ => ⟨h1, h2 ▸ Below.refl _ _⟩
  have HT : Hid (decide (c ≤ 0) = decide (a * val y ≤ val x * z)) := by unfold Hid; rw [← hc]; exact cmpN_nonpos _ _
  generalize digs (a * val y) = dp at HM1 HCM
  generalize digs (val x * z) = dq at HM2 HCM
  generalize decide (a * val y ≤ val x * z) = r at HT ⊢
  obtain ⟨W0, hW0⟩ : ∃ W, W = w.alloc (.cells #[.slice X lx cx, .slice Y ly cy] 49) := ⟨_, rfl⟩
  have b0 : Hid (Below w.heap.size w W0) := by unfold Hid; rw [hW0]; exact alloc_bel w _
  have Q0 : Hid (Blk W0 w.heap.size 49 #[.slice X lx cx, .slice Y ly cy]) := by unfold Hid; rw [hW0]; exact Blk.new w _ _
  have HW0 := Lib.hid hW0
  clear hW0 hla hlz hlx hly ha hz hx hy hl h1 h2 v1 v2 l1 l2 hlt ex ey sa sz sx sy hlp hlq hc
  go_enter Try.func74, Try.ntmps74
  go_wp2_with fail
  rw [← HW0.out]

  have HS : Hid (∀ W, Below W0.heap.size W0 W → W.cell? ⟨w.heap.size, 0, none⟩ = some (.slice X lx cx) ∧ W.cell? ⟨w.heap.size, 1, none⟩ = some (.slice Y ly cy)) := fun W hW => ⟨(Q0.out.below' hW).cell 0, (Q0.out.below' hW).cell 1⟩
  have E0 : Below W0.heap.size W0 W0 := Below.refl _ _
  refine wp_region_noPanic ?_
  refine wp_region_held_drew (S := fun W => W.cell? ⟨w.heap.size, 0, none⟩ = some (.slice X lx cx) ∧ W.cell? ⟨w.heap.size, 1, none⟩ = some (.slice Y ly cy)) (by kernel_rfl) (HS.out _ E0.drew) (fun hS => ?_)
  have E0 := E0.drew
  refine hd_take 0 (_) rfl rfl (by kernel_rfl) (by kernel_rfl) (by kernel_rfl) (fun _ _ _ h => h) (fun w hw => by go_simp <;> rfl) hS ?_
  simp only [List.getElem_toArray, List.getElem_cons_succ, List.getElem_cons_zero, Act.put, List.setIfInBounds_toArray, List.set_cons_zero, List.set_cons_succ]
  refine hd_take 1 (_) rfl rfl (by kernel_rfl) (by kernel_rfl) (by kernel_rfl) (fun _ _ _ h => h) (fun w hw => by go_simp <;> rfl) hS ?_
  simp only [List.getElem_toArray, List.getElem_cons_succ, List.getElem_cons_zero, Act.put, List.setIfInBounds_toArray, List.set_cons_zero, List.set_cons_succ]
  refine hd_take 2 (.slice Y ly cy) rfl rfl (by kernel_rfl) (by kernel_rfl) (by kernel_rfl) (fun _ _ _ h => h) (fun w hw => by have hx := hw.2; simp [go_sem, hx]) hS ?_
  simp only [List.getElem_toArray, List.getElem_cons_succ, List.getElem_cons_zero, Act.put, List.setIfInBounds_toArray, List.set_cons_zero, List.set_cons_succ]
  refine hd_take 4 (_) rfl rfl (by kernel_rfl) (by kernel_rfl) (by kernel_rfl) (fun _ _ _ h => h) (fun w hw => by go_simp <;> rfl) hS ?_
  simp only [List.getElem_toArray, List.getElem_cons_succ, List.getElem_cons_zero, Act.put, List.setIfInBounds_toArray, List.set_cons_zero, List.set_cons_succ]
  refine hd_take 5 (.slice X lx cx) rfl rfl (by kernel_rfl) (by kernel_rfl) (by kernel_rfl) (fun _ _ _ h => h) (fun w hw => by have hx := hw.1; simp [go_sem, hx]) hS ?_
  simp only [List.getElem_toArray, List.getElem_cons_succ, List.getElem_cons_zero, Act.put, List.setIfInBounds_toArray, List.set_cons_zero, List.set_cons_succ]
  refine hd_take 6 (_) rfl rfl (by kernel_rfl) (by kernel_rfl) (by kernel_rfl) (fun _ _ _ h => h) (fun w hw => by go_simp <;> rfl) hS ?_
  simp only [List.getElem_toArray, List.getElem_cons_succ, List.getElem_cons_zero, Act.put, List.setIfInBounds_toArray, List.set_cons_zero, List.set_cons_succ]
  refine hd_calls 3 69 #[.slice A la ca, .slice Y ly cy] rfl rfl (by kernel_rfl) (by go_simp <;> rfl) ?_
  refine (HM1.out _ (bel_on b0.out E0)).mono ?_
  rintro e y1 ⟨⟨oA, oc, rfl, ho⟩, hb⟩
  have E1_ := bel_on E0 hb
  have hS1_ := HS.out _ E1_
  clear hb
  refine ⟨_, rfl, hS1_, ?_⟩
  simp only [List.getElem_toArray, List.getElem_cons_succ, List.getElem_cons_zero, Act.put, List.setIfInBounds_toArray, List.set_cons_zero, List.set_cons_succ]
  refine hd_calls 7 69 #[.slice X lx cx, .slice Z lz cz] rfl rfl (by kernel_rfl) (by go_simp <;> rfl) ?_
  refine (HM2.out _ (bel_on b0.out E1_)).mono ?_
  rintro e y2 ⟨⟨qA, qc, rfl, hq⟩, hb⟩
  have E2_ := bel_on E1_ hb
  have hS2_ := HS.out _ E2_
  have ho := ho.below hb
  clear hb
  refine ⟨_, rfl, hS2_, ?_⟩
  simp only [List.getElem_toArray, List.getElem_cons_succ, List.getElem_cons_zero, Act.put, List.setIfInBounds_toArray, List.set_cons_zero, List.set_cons_succ]
  refine hd_calls 8 94 #[.slice oA lp oc, .slice qA lq qc] rfl rfl (by kernel_rfl) (by go_simp <;> rfl) ?_
  refine (HCM.out _ _ _ _ _ ho hq).mono ?_
  rintro e y3 ⟨rfl, hb⟩
  have E3_ := bel_on E2_ hb
  have hS3_ := HS.out _ E3_
  clear hb
  refine ⟨_, rfl, hS3_, ?_⟩
  simp only [List.getElem_toArray, List.getElem_cons_succ, List.getElem_cons_zero, Act.put, List.setIfInBounds_toArray, List.set_cons_zero, List.set_cons_succ]
  refine hd_take 9 (_) rfl rfl (by kernel_rfl) (by kernel_rfl) (by kernel_rfl) (fun _ _ _ h => h) (fun w hw => by go_simp <;> rfl) hS3_ ?_
  simp only [List.getElem_toArray, List.getElem_cons_succ, List.getElem_cons_zero, Act.put, List.setIfInBounds_toArray, List.set_cons_zero, List.set_cons_succ]
  refine hd_take 10 (_) rfl rfl (by kernel_rfl) (by kernel_rfl) (by kernel_rfl) (fun _ _ _ h => h) (fun w hw => by go_simp <;> rfl) hS3_ ?_
  simp only [List.getElem_toArray, List.getElem_cons_succ, List.getElem_cons_zero, Act.put, List.setIfInBounds_toArray, List.set_cons_zero, List.set_cons_succ]
  refine wpAnyH_done (by kernel_rfl) (NoPanic.normal ?_) _
  go_wp2_with fail
  go_ret
  refine ⟨?_, bel_on b0.out E3_⟩
  rw [← HT.out]
  rfl
end Go.Proofs.Ytenpkmgbaajeeaa

/- Numbers of choices and of divisions: the program. -/
namespace Go.Proofs.Ytenpkmgbaajeeaa
open Go.RowKit
set_option linter.unusedVariables false
set_option linter.unusedSimpArgs false

/-- The number of ways to choose b of a things, for any b. -/
def chS (a : Nat) (b : Int) : Nat := if b < 0 then 0 else bin a b.toNat
theorem chS_neg {a : Nat} {b : Int} (h : b < 0) : chS a b = 0 := by rw [chS, if_pos h]
theorem chS_nat (a b : Nat) : chS a (b : Int) = bin a b := by rw [chS, if_neg (by omega), Int.toNat_natCast]
theorem chS_above {a : Nat} {b : Int} (h : (a : Int) < b) : chS a b = 0 := by rw [chS, if_neg (by omega)]; exact bin_above (by omega)
theorem chS_le (a : Nat) (b : Int) : chS a b ≤ 2 ^ a := by
  unfold chS
  split
  · exact Nat.zero_le _
  · exact bin_le _ _
theorem pick_chS (k n d x : Nat) : chS k (x : Int) * chS n ((d : Int) - (x : Int)) = pick k n d x := by
  unfold pick
  rw [chS_nat]
  by_cases h : x ≤ d
  · rw [if_pos h, show (d : Int) - (x : Int) = ((d - x : Nat) : Int) from by omega, chS_nat]
  · rw [if_neg h, chS_neg (by omega), Nat.mul_zero]
theorem pick_le {k n d x m : Nat} (h : k + n = m) (hx : x ≤ d) : pick k n d x ≤ 2 ^ m := by
  have := pick_sum k n d
  rw [h] at this
  have h2 := sumN_mono (pick k n d) (show x + 1 ≤ d + 1 by omega)
  rw [sumN_succ] at h2
  have := bin_le m d
  omega
theorem pick_le_ (k n d x : Nat) : pick k n d x ≤ 2 ^ (k + n) := by
  by_cases h : x ≤ d
  · exact pick_le rfl h
  · unfold pick; rw [if_neg h]; exact Nat.zero_le _
set_option maxHeartbeats 4000000 in
set_option maxRecDepth 100000 in
theorem of_any (a : Nat) (b : Int) (A : Option Addr) (c : Nat) (w : World) {B : Nat} (h : BinR B w A c a) (ha : a ≤ 128) (hb1 : -1000 ≤ b) (hb2 : b ≤ 1000) :
    Calls Try.prog 64 #[.slice A (a + 1) c, .int .i64 b] w fun e w' => (∃ X x, e = .returned (.slice X (digs (chS a b)).length x) ∧ NR w' X x (digs (chS a b))) ∧ Below w.heap.size w w' := by
  have hai : (a : Int) ≤ 128 := by omega
  by_cases h0 : b < 0
  · have HS := Lib.hid (chS_neg (a := a) h0)
    clear h hb1 hb2
    go_enter Try.func64, Try.ntmps64
    go_wp2_with fail
    go_ret
    exact ⟨⟨none, 0, by rw [HS.out]; rfl, by rw [HS.out]; exact NR.nil _⟩, Below.refl _ _⟩
  · by_cases h1 : (a : Int) < b
    · have HS := Lib.hid (chS_above h1)
      have h2 : (a : Int) + 1 ≤ b := by omega
      clear h hb1 hb2 h1
      go_enter Try.func64, Try.ntmps64
      go_wp2_with fail
      all_goals first | omega | (go_ret; exact ⟨⟨none, 0, by rw [HS.out]; rfl, by rw [HS.out]; exact NR.nil _⟩, Below.refl _ _⟩)
    · obtain ⟨i, rfl⟩ : ∃ i : Nat, b = (i : Int) := ⟨b.toNat, by omega⟩
      obtain ⟨bb, off, X, x, rfl, hbb, hc, hn⟩ := h.at_ (i := i) (by omega)
      rw [chS_nat]
      have h2 : (i : Int) < (a : Int) + 1 := by omega
      have h3 : (0 : Int) ≤ i := by omega
      generalize digs (bin a i) = d at hc hn ⊢
      generalize hl : d.length = l at hc ⊢
      clear h hb1 hb2 h0 h1 hl
      go_enter Try.func64, Try.ntmps64
      go_wp2_with fail
      all_goals first | omega | (go_ret; exact ⟨⟨X, x, rfl, hn⟩, Below.refl _ _⟩)

theorem far3 {w : World} {g B : Nat} (h : g < B) (u0 u1 u2 : Value) : ∀ p : Addr, B ≤ p.block → (((w.setCell ⟨g, 0, none⟩ u0).setCell ⟨g, 1, none⟩ u1).setCell ⟨g, 2, none⟩ u2).cell? p = w.cell? p := fun p hp => by
  rw [World.cell?_setCell_far _ _ _ _ (by simp; omega), World.cell?_setCell_far _ _ _ _ (by simp; omega), World.cell?_setCell_far _ _ _ _ (by simp; omega)]
/-- The divisions of 2d places, k of which are marked. -/
def divC (d k n : Nat) (M : Option Addr) (cm : Nat) (O : Option Addr) (co : Nat) : Array Value := #[.int .i64 (d : Int), .slice M (k + 1) cm, .slice O (n + 1) co]
def DivR (B : Nat) (w : World) (k n : Nat) (M : Option Addr) (cm : Nat) (O : Option Addr) (co : Nat) : Prop := BinR B w M cm k ∧ BinR B w O co n
theorem DivR.below {B : Nat} {w w' : World} {k n : Nat} {M : Option Addr} {cm : Nat} {O : Option Addr} {co : Nat} (h : DivR B w k n M cm O co) (hb : Below w.heap.size w w') : DivR B w' k n M cm O co := ⟨h.1.below hb, h.2.below hb⟩
set_option maxHeartbeats 4000000 in
set_option maxRecDepth 100000 in
theorem divided_any (d k n : Nat) (w : World) (hd : d ≤ 64) (hk : k + n = 2 * d) :
    Calls Try.prog 35 #[.int .i64 (d : Int), .int .i64 (k : Int)] w fun e w' => (∃ M cm O co, e = .returned (.agg (divC d k n M cm O co)) ∧ DivR w.heap.size w' k n M cm O co) ∧ Below w.heap.size w w' := by
  have hdi : (d : Int) ≤ 64 := by omega
  have hki : (k : Int) ≤ 128 := by omega
  have e1 : IntKind.i64.wrap (2 * (d : Int)) = 2 * (d : Int) := by rw [IntKind.wrap_i64]; omega
  have e2 : IntKind.i64.wrap (2 * (d : Int) - (k : Int)) = (n : Int) := by rw [IntKind.wrap_i64]; omega
  have e3 : 2 * (d : Int) - (k : Int) = (n : Int) := by omega
  have HR1 : Hid (∀ W, Calls Try.prog 59 #[.int .i64 (k : Int)] W fun e w' => (∃ A c, e = .returned (.slice A (k + 1) c) ∧ BinR W.heap.size w' A c k) ∧ Below W.heap.size W w') := fun W => rowOf_any k W (by omega)
  have HR2 : Hid (∀ W, Calls Try.prog 59 #[.int .i64 (n : Int)] W fun e w' => (∃ A c, e = .returned (.slice A (n + 1) c) ∧ BinR W.heap.size w' A c n) ∧ Below W.heap.size W w') := fun W => rowOf_any n W (by omega)
  obtain ⟨W0, hW0⟩ : ∃ W, W = w.alloc (.cells #[.int .i64 0, .slice none 0 0, .slice none 0 0] 72) := ⟨_, rfl⟩
  have b0 : Hid (Below w.heap.size w W0) := by unfold Hid; rw [hW0]; exact alloc_bel w _
  have Q0 : Hid (Blk W0 w.heap.size 72 #[.int .i64 0, .slice none 0 0, .slice none 0 0]) := by unfold Hid; rw [hW0]; exact Blk.new w _ _
  have HZ0 : Hid (W0.heap.size = w.heap.size + 1) := by unfold Hid; rw [hW0]; simp
  have HW0 := Lib.hid hW0
  clear hW0 hk
  go_enter Try.func35, Try.ntmps35
  go_wp2_with (first
    | (go_at_call 59; rw [← HW0.out]; (with_reducible refine (HR1.out _).mono ?_); rintro e w1 ⟨⟨M, cm, rfl, hm⟩, hb⟩; have M1 := Lib.hid hm; have D1 := Lib.hid (bel_on b0.out hb); have HZ1 : Hid (w.heap.size < w1.heap.size) := (by unfold Hid; have := hb.size; have := HZ0.out; omega); have Q1 := Lib.hid (Q0.out.below' hb); clear hm hb)
    | (go_at_call 59; (with_reducible refine (HR2.out _).mono ?_); rintro e w2 ⟨⟨O, co, rfl, ho⟩, hb⟩; have O2 := Lib.hid ho; have M2 := Lib.hid (M1.out.below hb); have D2 := Lib.hid (bel_on D1.out hb); have Q2 := Lib.hid (Q1.out.below' hb); clear ho hb; have k0 := Q2.out.cell 0; have k1 := Q2.out.cell 1; have k2 := Q2.out.cell 2; have f0 := Q2.out.frozen 0; have f1 := Q2.out.frozen 1; have f2 := Q2.out.frozen 2))
  exact bodyPost_ret (v := .agg (divC d k n M cm O co)) (by simp [results, Try.f35, go_sem, divC, k0, k1, k2, f0, f1, f2]) rfl ⟨⟨M, cm, O, co, rfl, (M2.out.far (by simp) (far3 (by have := HZ0.out; omega) _ _ _)).mono b0.out.size, (O2.out.far (by simp) (far3 (by have := HZ1.out; omega) _ _ _)).mono D1.out.size⟩, ((D2.out.setCell (p := ⟨w.heap.size, 0, none⟩) (Nat.le_refl _) _).setCell (p := ⟨w.heap.size, 1, none⟩) (Nat.le_refl _) _).setCell (p := ⟨w.heap.size, 2, none⟩) (Nat.le_refl _) _⟩

set_option maxHeartbeats 4000000 in
set_option maxRecDepth 100000 in
theorem with_any (d k n x : Nat) (M : Option Addr) (cm : Nat) (O : Option Addr) (co : Nat) (w : World) {B : Nat} (h : DivR B w k n M cm O co) (hd : d ≤ 64) (hk : k + n = 2 * d) (hx : x ≤ 128) :
    Calls Try.prog 38 #[.agg (divC d k n M cm O co), .int .i64 (x : Int)] w fun e w' => (∃ X x', e = .returned (.slice X (digs (pick k n d x)).length x') ∧ NR w' X x' (digs (pick k n d x))) ∧ Below w.heap.size w w' := by
  have hdi : (d : Int) ≤ 64 := by omega
  have hxi : (x : Int) ≤ 128 := by omega
  have e1 : IntKind.i64.wrap ((d : Int) - (x : Int)) = (d : Int) - (x : Int) := by rw [IntKind.wrap_i64]; omega
  obtain ⟨z, hz⟩ : ∃ z, (d : Int) - (x : Int) = z := ⟨_, rfl⟩
  have e1 : IntKind.i64.wrap ((d : Int) - (x : Int)) = z := by rw [IntKind.wrap_i64]; omega
  have s1 : Sm (chS k x) := (sm_pow (m := 128) (by omega)).mono (Nat.le_trans (chS_le k x) (Nat.pow_le_pow_right (by omega) (by omega)))
  have s2 : Sm (chS n z) := (sm_pow (m := 128) (by omega)).mono (Nat.le_trans (chS_le n z) (Nat.pow_le_pow_right (by omega) (by omega)))
  have hpk : chS k (x : Int) * chS n z = pick k n d x := by rw [← hz]; exact pick_chS k n d x
  have s3 : Sm (chS k (x : Int) * chS n z) := by rw [hpk]; exact (sm_pow (m := 128) (by omega)).mono (Nat.le_trans (pick_le_ k n d x) (Nat.pow_le_pow_right (by omega) (by omega)))
  have HO1 : Hid (∀ W, Below w.heap.size w W → Calls Try.prog 64 #[.slice M (k + 1) cm, .int .i64 (x : Int)] W fun e w' => (∃ X x', e = .returned (.slice X (digs (chS k x)).length x') ∧ NR w' X x' (digs (chS k x))) ∧ Below W.heap.size W w') := fun W hW => of_any k x M cm W (h.1.below hW) (by omega) (by omega) (by omega)
  have HO2 : Hid (∀ W, Below w.heap.size w W → Calls Try.prog 64 #[.slice O (n + 1) co, .int .i64 z] W fun e w' => (∃ X x', e = .returned (.slice X (digs (chS n z)).length x') ∧ NR w' X x' (digs (chS n z))) ∧ Below W.heap.size W w') := fun W hW => of_any n z O co W (h.2.below hW) (by omega) (by omega) (by omega)
  have HTM : Hid (∀ A' c' B' d' W, NR W A' c' (digs (chS k x)) → NR W B' d' (digs (chS n z)) → Calls Try.prog 63 #[.slice A' (digs (chS k x)).length c', .slice B' (digs (chS n z)).length d'] W fun e w' => (∃ A c, e = .returned (.tuple #[.slice A (digs (pick k n d x)).length c, .int .i64 0]) ∧ NR w' A c (digs (pick k n d x))) ∧ Below W.heap.size W w') := fun A' c' B' d' W h1 h2 => by rw [← hpk]; exact mulD_any s3 s1 s2 rfl rfl h1 h2
  have HMU : Hid (∀ A n c W, Calls Try.prog 36 #[.slice A n c, .int .i64 0] W fun e w' => e = .returned (.slice A n c) ∧ Below W.heap.size W w') := fun A n c W => must_any A n c 0 W
  generalize digs (pick k n d x) = dp at HTM ⊢
  generalize digs (chS k x) = d1 at HO1 HTM
  generalize digs (chS n z) = d2 at HO2 HTM
  generalize dp.length = lp at HTM ⊢
  generalize d1.length = l1 at HO1 HTM
  generalize d2.length = l2 at HO2 HTM
  obtain ⟨W0, hW0⟩ : ∃ W, W = w.alloc (.cells (divC d k n M cm O co) 72) := ⟨_, rfl⟩
  have b0 : Hid (Below w.heap.size w W0) := by unfold Hid; rw [hW0]; exact alloc_bel w _
  have Q0 : Hid (Blk W0 w.heap.size 72 (divC d k n M cm O co)) := by unfold Hid; rw [hW0]; exact Blk.new w _ _
  have HW0 := Lib.hid hW0
  clear hW0 hk h hd hx hz s1 s2 s3 hpk
  go_enter Try.func38, Try.ntmps38
  go_wp2_with fail
  rw [← HW0.out]

  have HS : Hid (∀ W, Below W0.heap.size W0 W → W.cell? ⟨w.heap.size, 0, none⟩ = some (.int .i64 (d : Int)) ∧ W.cell? ⟨w.heap.size, 1, none⟩ = some (.slice M (k + 1) cm) ∧ W.cell? ⟨w.heap.size, 2, none⟩ = some (.slice O (n + 1) co)) := fun W hW => ⟨(Q0.out.below' hW).cell 0, (Q0.out.below' hW).cell 1, (Q0.out.below' hW).cell 2⟩
  have E0 : Below W0.heap.size W0 W0 := Below.refl _ _
  refine wp_region_noPanic ?_
  refine wp_region_held_drew (S := fun W => W.cell? ⟨w.heap.size, 0, none⟩ = some (.int .i64 (d : Int)) ∧ W.cell? ⟨w.heap.size, 1, none⟩ = some (.slice M (k + 1) cm) ∧ W.cell? ⟨w.heap.size, 2, none⟩ = some (.slice O (n + 1) co)) (by kernel_rfl) (HS.out _ E0.drew) (fun hS => ?_)
  have E0 := E0.drew
  refine hd_take 0 (_) rfl rfl (by kernel_rfl) (by kernel_rfl) (by kernel_rfl) (fun _ _ _ h => h) (fun w hw => by go_simp <;> rfl) hS ?_
  simp only [List.getElem_toArray, List.getElem_cons_succ, List.getElem_cons_zero, Act.put, List.setIfInBounds_toArray, List.set_cons_zero, List.set_cons_succ]
  refine hd_take 1 (.slice M (k + 1) cm) rfl rfl (by kernel_rfl) (by kernel_rfl) (by kernel_rfl) (fun _ _ _ h => h) (fun w hw => by have hx := hw.2.1; simp [go_sem, hx]) hS ?_
  simp only [List.getElem_toArray, List.getElem_cons_succ, List.getElem_cons_zero, Act.put, List.setIfInBounds_toArray, List.set_cons_zero, List.set_cons_succ]
  refine hd_take 2 (_) rfl rfl (by kernel_rfl) (by kernel_rfl) (by kernel_rfl) (fun _ _ _ h => h) (fun w hw => by go_simp <;> rfl) hS ?_
  simp only [List.getElem_toArray, List.getElem_cons_succ, List.getElem_cons_zero, Act.put, List.setIfInBounds_toArray, List.set_cons_zero, List.set_cons_succ]
  refine hd_take 4 (_) rfl rfl (by kernel_rfl) (by kernel_rfl) (by kernel_rfl) (fun _ _ _ h => h) (fun w hw => by go_simp <;> rfl) hS ?_
  simp only [List.getElem_toArray, List.getElem_cons_succ, List.getElem_cons_zero, Act.put, List.setIfInBounds_toArray, List.set_cons_zero, List.set_cons_succ]
  refine hd_take 5 (.slice O (n + 1) co) rfl rfl (by kernel_rfl) (by kernel_rfl) (by kernel_rfl) (fun _ _ _ h => h) (fun w hw => by have hx := hw.2.2; simp [go_sem, hx]) hS ?_
  simp only [List.getElem_toArray, List.getElem_cons_succ, List.getElem_cons_zero, Act.put, List.setIfInBounds_toArray, List.set_cons_zero, List.set_cons_succ]
  refine hd_take 6 (_) rfl rfl (by kernel_rfl) (by kernel_rfl) (by kernel_rfl) (fun _ _ _ h => h) (fun w hw => by go_simp <;> rfl) hS ?_
  simp only [List.getElem_toArray, List.getElem_cons_succ, List.getElem_cons_zero, Act.put, List.setIfInBounds_toArray, List.set_cons_zero, List.set_cons_succ]
  refine hd_take 7 (.int .i64 (d : Int)) rfl rfl (by kernel_rfl) (by kernel_rfl) (by kernel_rfl) (fun _ _ _ h => h) (fun w hw => by have hx := hw.1; simp [go_sem, hx]) hS ?_
  simp only [List.getElem_toArray, List.getElem_cons_succ, List.getElem_cons_zero, Act.put, List.setIfInBounds_toArray, List.set_cons_zero, List.set_cons_succ]
  refine hd_take 8 (_) rfl rfl (by kernel_rfl) (by kernel_rfl) (by kernel_rfl) (fun _ _ _ h => h) (fun w hw => by go_simp <;> rfl) hS ?_
  simp only [List.getElem_toArray, List.getElem_cons_succ, List.getElem_cons_zero, Act.put, List.setIfInBounds_toArray, List.set_cons_zero, List.set_cons_succ]
  refine hd_take 9 (.int .i64 z) rfl rfl (by kernel_rfl) (by kernel_rfl) (by kernel_rfl) (fun _ _ _ h => h) (fun w hw => by have hx := e1; simp [go_sem, hx]) hS ?_
  simp only [List.getElem_toArray, List.getElem_cons_succ, List.getElem_cons_zero, Act.put, List.setIfInBounds_toArray, List.set_cons_zero, List.set_cons_succ]
  refine hd_calls 3 64 #[.slice M (k + 1) cm, .int .i64 (x : Int)] rfl rfl (by kernel_rfl) (by go_simp <;> rfl) ?_
  refine (HO1.out _ (bel_on b0.out E0)).mono ?_
  rintro e y1 ⟨⟨oA, oc, rfl, ho⟩, hb⟩
  have E1_ := bel_on E0 hb
  have hS1_ := HS.out _ E1_
  clear hb
  refine ⟨_, rfl, hS1_, ?_⟩
  simp only [List.getElem_toArray, List.getElem_cons_succ, List.getElem_cons_zero, Act.put, List.setIfInBounds_toArray, List.set_cons_zero, List.set_cons_succ]
  refine hd_calls 10 64 #[.slice O (n + 1) co, .int .i64 z] rfl rfl (by kernel_rfl) (by go_simp <;> rfl) ?_
  refine (HO2.out _ (bel_on b0.out E1_)).mono ?_
  rintro e y2 ⟨⟨qA, qc, rfl, hq⟩, hb⟩
  have E2_ := bel_on E1_ hb
  have hS2_ := HS.out _ E2_
  have ho := ho.below hb
  clear hb
  refine ⟨_, rfl, hS2_, ?_⟩
  simp only [List.getElem_toArray, List.getElem_cons_succ, List.getElem_cons_zero, Act.put, List.setIfInBounds_toArray, List.set_cons_zero, List.set_cons_succ]
  refine hd_calls 11 63 #[.slice oA l1 oc, .slice qA l2 qc] rfl rfl (by kernel_rfl) (by go_simp <;> rfl) ?_
  refine (HTM.out _ _ _ _ _ ho hq).mono ?_
  rintro e y3 ⟨⟨pA, pc, rfl, hp⟩, hb⟩
  have E3_ := bel_on E2_ hb
  have hS3_ := HS.out _ E3_
  clear hb
  refine ⟨_, rfl, hS3_, ?_⟩
  simp only [List.getElem_toArray, List.getElem_cons_succ, List.getElem_cons_zero, Act.put, List.setIfInBounds_toArray, List.set_cons_zero, List.set_cons_succ]
  refine hd_take 12 (_) rfl rfl (by kernel_rfl) (by kernel_rfl) (by kernel_rfl) (fun _ _ _ h => h) (fun w hw => by go_simp <;> rfl) hS3_ ?_
  simp only [List.getElem_toArray, List.getElem_cons_succ, List.getElem_cons_zero, Act.put, List.setIfInBounds_toArray, List.set_cons_zero, List.set_cons_succ]
  refine hd_take 13 (_) rfl rfl (by kernel_rfl) (by kernel_rfl) (by kernel_rfl) (fun _ _ _ h => h) (fun w hw => by go_simp <;> rfl) hS3_ ?_
  simp only [List.getElem_toArray, List.getElem_cons_succ, List.getElem_cons_zero, Act.put, List.setIfInBounds_toArray, List.set_cons_zero, List.set_cons_succ]
  refine hd_calls 14 36 #[.slice pA lp pc, .int .i64 0] rfl rfl (by kernel_rfl) (by go_simp <;> rfl) ?_
  refine (HMU.out _ _ _ _).mono ?_
  rintro e y4 ⟨rfl, hb⟩
  have E4_ := bel_on E3_ hb
  have hS4_ := HS.out _ E4_
  have hp := hp.below hb
  clear hb
  refine ⟨_, rfl, hS4_, ?_⟩
  simp only [List.getElem_toArray, List.getElem_cons_succ, List.getElem_cons_zero, Act.put, List.setIfInBounds_toArray, List.set_cons_zero, List.set_cons_succ]
  refine hd_take 15 (_) rfl rfl (by kernel_rfl) (by kernel_rfl) (by kernel_rfl) (fun _ _ _ h => h) (fun w hw => by go_simp <;> rfl) hS4_ ?_
  simp only [List.getElem_toArray, List.getElem_cons_succ, List.getElem_cons_zero, Act.put, List.setIfInBounds_toArray, List.set_cons_zero, List.set_cons_succ]
  refine wpAnyH_done (by kernel_rfl) (NoPanic.normal ?_) _
  go_wp2_with fail
  go_ret
  exact ⟨⟨pA, pc, rfl, hp⟩, bel_on b0.out E4_⟩
set_option maxHeartbeats 4000000 in
set_option maxRecDepth 100000 in
theorem all_any (d k n : Nat) (M : Option Addr) (cm : Nat) (O : Option Addr) (co : Nat) (w : World) (hd : d ≤ 64) :
    Calls Try.prog 40 #[.agg (divC d k n M cm O co)] w fun e w' => (∃ X x', e = .returned (.slice X (digs (bin (2 * d) d)).length x') ∧ NR w' X x' (digs (bin (2 * d) d))) ∧ Below w.heap.size w w' := by
  have hdi : (d : Int) ≤ 64 := by omega
  obtain ⟨m, hm⟩ : ∃ m, 2 * d = m := ⟨_, rfl⟩
  rw [hm]
  have e1 : IntKind.i64.wrap (2 * (d : Int)) = (m : Int) := by rw [IntKind.wrap_i64]; omega
  have HR1 : Hid (∀ W, Calls Try.prog 59 #[.int .i64 (m : Int)] W fun e w' => (∃ A c, e = .returned (.slice A (m + 1) c) ∧ BinR W.heap.size w' A c m) ∧ Below W.heap.size W w') := fun W => rowOf_any m W (by omega)
  have HO1 : Hid (∀ W A c B, BinR B W A c m → Calls Try.prog 64 #[.slice A (m + 1) c, .int .i64 (d : Int)] W fun e w' => (∃ X x', e = .returned (.slice X (digs (bin m d)).length x') ∧ NR w' X x' (digs (bin m d))) ∧ Below W.heap.size W w') := fun W A c B hA => by
    have := of_any m (d : Int) A c W hA (by omega) (by omega) (by omega)
    rwa [chS_nat] at this
  generalize digs (bin m d) = dp at HO1 ⊢
  generalize dp.length = lp at HO1 ⊢
  obtain ⟨W0, hW0⟩ : ∃ W, W = w.alloc (.cells (divC d k n M cm O co) 72) := ⟨_, rfl⟩
  have b0 : Hid (Below w.heap.size w W0) := by unfold Hid; rw [hW0]; exact alloc_bel w _
  have Q0 : Hid (Blk W0 w.heap.size 72 (divC d k n M cm O co)) := by unfold Hid; rw [hW0]; exact Blk.new w _ _
  have HW0 := Lib.hid hW0
  clear hW0 hd hm
  go_enter Try.func40, Try.ntmps40
  go_wp2_with fail
  rw [← HW0.out]

  have HS : Hid (∀ W, Below W0.heap.size W0 W → W.cell? ⟨w.heap.size, 0, none⟩ = some (.int .i64 (d : Int))) := fun W hW => (Q0.out.below' hW).cell 0
  have E0 : Below W0.heap.size W0 W0 := Below.refl _ _
  refine wp_region_noPanic ?_
  refine wp_region_held_drew (S := fun W => W.cell? ⟨w.heap.size, 0, none⟩ = some (.int .i64 (d : Int))) (by kernel_rfl) (HS.out _ E0.drew) (fun hS => ?_)
  have E0 := E0.drew
  refine hd_take 0 (_) rfl rfl (by kernel_rfl) (by kernel_rfl) (by kernel_rfl) (fun _ _ _ h => h) (fun w hw => by go_simp <;> rfl) hS ?_
  simp only [List.getElem_toArray, List.getElem_cons_succ, List.getElem_cons_zero, Act.put, List.setIfInBounds_toArray, List.set_cons_zero, List.set_cons_succ]
  refine hd_take 1 (.int .i64 (d : Int)) rfl rfl (by kernel_rfl) (by kernel_rfl) (by kernel_rfl) (fun _ _ _ h => h) (fun w hw => by have hx := hw; simp [go_sem, hx]) hS ?_
  simp only [List.getElem_toArray, List.getElem_cons_succ, List.getElem_cons_zero, Act.put, List.setIfInBounds_toArray, List.set_cons_zero, List.set_cons_succ]
  refine hd_take 2 (.int .i64 (m : Int)) rfl rfl (by kernel_rfl) (by kernel_rfl) (by kernel_rfl) (fun _ _ _ h => h) (fun w hw => by have hx := e1; simp [go_sem, hx]) hS ?_
  simp only [List.getElem_toArray, List.getElem_cons_succ, List.getElem_cons_zero, Act.put, List.setIfInBounds_toArray, List.set_cons_zero, List.set_cons_succ]
  refine hd_take 4 (_) rfl rfl (by kernel_rfl) (by kernel_rfl) (by kernel_rfl) (fun _ _ _ h => h) (fun w hw => by go_simp <;> rfl) hS ?_
  simp only [List.getElem_toArray, List.getElem_cons_succ, List.getElem_cons_zero, Act.put, List.setIfInBounds_toArray, List.set_cons_zero, List.set_cons_succ]
  refine hd_take 5 (.int .i64 (d : Int)) rfl rfl (by kernel_rfl) (by kernel_rfl) (by kernel_rfl) (fun _ _ _ h => h) (fun w hw => by have hx := hw; simp [go_sem, hx]) hS ?_
  simp only [List.getElem_toArray, List.getElem_cons_succ, List.getElem_cons_zero, Act.put, List.setIfInBounds_toArray, List.set_cons_zero, List.set_cons_succ]
  refine hd_calls 3 59 #[.int .i64 (m : Int)] rfl rfl (by kernel_rfl) (by go_simp <;> rfl) ?_
  refine (HR1.out _).mono ?_
  rintro e y1 ⟨⟨oA, oc, rfl, ho⟩, hb⟩
  have E1_ := bel_on E0 hb
  have hS1_ := HS.out _ E1_
  clear hb
  refine ⟨_, rfl, hS1_, ?_⟩
  simp only [List.getElem_toArray, List.getElem_cons_succ, List.getElem_cons_zero, Act.put, List.setIfInBounds_toArray, List.set_cons_zero, List.set_cons_succ]
  refine hd_calls 6 64 #[.slice oA (m + 1) oc, .int .i64 (d : Int)] rfl rfl (by kernel_rfl) (by go_simp <;> rfl) ?_
  refine (HO1.out _ _ _ _ ho).mono ?_
  rintro e y2 ⟨⟨pA, pc, rfl, hp⟩, hb⟩
  have E2_ := bel_on E1_ hb
  have hS2_ := HS.out _ E2_
  clear hb
  refine ⟨_, rfl, hS2_, ?_⟩
  simp only [List.getElem_toArray, List.getElem_cons_succ, List.getElem_cons_zero, Act.put, List.setIfInBounds_toArray, List.set_cons_zero, List.set_cons_succ]
  refine hd_take 7 (_) rfl rfl (by kernel_rfl) (by kernel_rfl) (by kernel_rfl) (fun _ _ _ h => h) (fun w hw => by go_simp <;> rfl) hS2_ ?_
  simp only [List.getElem_toArray, List.getElem_cons_succ, List.getElem_cons_zero, Act.put, List.setIfInBounds_toArray, List.set_cons_zero, List.set_cons_succ]
  refine wpAnyH_done (by kernel_rfl) (NoPanic.normal ?_) _
  go_wp2_with fail
  go_ret
  exact ⟨⟨pA, pc, rfl, hp⟩, bel_on b0.out E2_⟩
end Go.Proofs.Ytenpkmgbaajeeaa

/- Codes of steps in plain words: thresholds, the arrangement, words, weights, names, completeness. -/
namespace Go.Proofs.Ytenpkmgbaajeeaa
set_option linter.unusedVariables false

/-- How many of the first numbers in a row have a property, up to n of them. -/
def lead (P : Nat → Bool) : Nat → Nat
  | 0 => 0
  | n + 1 => if lead P n = n ∧ P n = true then n + 1 else lead P n
theorem lead_le (P : Nat → Bool) : ∀ n, lead P n ≤ n
  | 0 => Nat.le_refl _
  | n + 1 => by
    have := lead_le P n
    unfold lead
    split <;> omega
theorem lead_go {P : Nat → Bool} {x : Nat} (h : lead P x = x) (hp : P x = true) : lead P (x + 1) = x + 1 := by rw [lead, if_pos ⟨h, hp⟩]
theorem lead_stop {P : Nat → Bool} {x : Nat} (h : lead P x = x) (hp : P x = false) : ∀ {n : Nat}, x < n → lead P n = x
  | 0, hx => by omega
  | n + 1, hx => by
    rw [lead]
    rcases Nat.lt_or_ge x n with h1 | h1
    · have := lead_stop h hp h1
      rw [this, if_neg (by omega)]
    · obtain rfl : x = n := by omega
      rw [if_neg (by rw [hp]; simp), h]
theorem lead_all {P : Nat → Bool} : ∀ {n x : Nat}, x < lead P n → P x = true
  | 0, x, h => by simp [lead] at h
  | n + 1, x, h => by
    rw [lead] at h
    split at h
    · rename_i h1
      rcases Nat.lt_or_ge x n with h2 | h2
      · exact lead_all (n := n) (by omega)
      · obtain rfl : x = n := by omega
        exact h1.2
    · exact lead_all h
theorem lead_end {P : Nat → Bool} : ∀ {n : Nat}, lead P n < n → P (lead P n) = false
  | 0, h => by omega
  | n + 1, h => by
    rw [lead] at h ⊢
    split at h
    · omega
    · rename_i h1
      rw [if_neg h1]
      rcases Nat.lt_or_ge (lead P n) n with h2 | h2
      · exact lead_end h2
      · have h3 := lead_le P n
        have h4 : lead P n = n := by omega
        rw [h4]
        cases hp : P n
        · rfl
        · exact absurd ⟨h4, hp⟩ h1
/-- The divisions with at most x marked places in the first block are at most the share num / den of all. -/
def underB (d k num den x : Nat) : Bool := decide (divsN d k (x + 1) * den ≤ num * bin (2 * d) d)
/-- The threshold. -/
def thS (d k num den : Nat) : Int := (lead (underB d k num den) (k + 1) : Int) - 1

/-- Two places are exchanged. -/
def swapL (l : List Nat) (i j : Nat) : List Nat := (l.set i (l.getD j 0)).set j (l.getD i 0)
theorem swapL_length (l : List Nat) (i j : Nat) : (swapL l i j).length = l.length := by simp [swapL]
theorem swapL_get {l : List Nat} {i j p : Nat} (hi : i < l.length) (hj : j < l.length) (hp : p < l.length) : (swapL l i j).getD p 0 = l.getD (if p = j then i else if p = i then j else p) 0 := by
  unfold swapL
  simp only [List.getD_eq_getElem?_getD, List.getElem?_set, List.length_set]
  by_cases h1 : p = j
  · subst h1; simp [hj]
  · rw [if_neg (fun e => h1 e.symm), if_neg h1]
    by_cases h2 : p = i
    · subst h2; simp [hi]
    · rw [if_neg (fun e => h2 e.symm), if_neg h2]
/-- An arrangement of n places: all in range, no place twice. -/
def ArrL (l : List Nat) (n : Nat) : Prop := l.length = n ∧ (∀ p, p < n → l.getD p 0 < n) ∧ ∀ p q, p < n → q < n → l.getD p 0 = l.getD q 0 → p = q
theorem arr_range (n : Nat) : ArrL (List.range n) n := by
  have h : ∀ p, p < n → (List.range n).getD p 0 = p := fun p hp => by simp [List.getD_eq_getElem?_getD, hp]
  exact ⟨by simp, fun p hp => by rw [h p hp]; exact hp, fun p q hp hq e => by rwa [h p hp, h q hq] at e⟩
theorem arr_swap {l : List Nat} {n i j : Nat} (h : ArrL l n) (hi : i < n) (hj : j < n) : ArrL (swapL l i j) n := by
  obtain ⟨h1, h2, h3⟩ := h
  have hg : ∀ p, p < n → (swapL l i j).getD p 0 = l.getD (if p = j then i else if p = i then j else p) 0 := fun p hp => swapL_get (by omega) (by omega) (by omega)
  have hb : ∀ p, p < n → (if p = j then i else if p = i then j else p) < n := fun p hp => by
    by_cases a : p = j
    · rw [if_pos a]; exact hi
    · rw [if_neg a]
      by_cases b : p = i
      · rw [if_pos b]; exact hj
      · rw [if_neg b]; exact hp
  refine ⟨by rw [swapL_length, h1], fun p hp => by rw [hg p hp]; exact h2 _ (hb p hp), fun p q hp hq e => ?_⟩
  rw [hg p hp, hg q hq] at e
  have e2 := h3 _ _ (hb p hp) (hb q hq) e
  clear hg hb e h1 h2 h3
  generalize he : (if p = j then i else if p = i then j else p) = u at e2
  generalize hf : (if q = j then i else if q = i then j else q) = v at e2
  subst e2
  by_cases a1 : p = j
  · rw [if_pos a1] at he
    by_cases b1 : q = j
    · omega
    · rw [if_neg b1] at hf
      by_cases b2 : q = i
      · rw [if_pos b2] at hf; omega
      · rw [if_neg b2] at hf; omega
  · rw [if_neg a1] at he
    by_cases a2 : p = i
    · rw [if_pos a2] at he
      by_cases b1 : q = j
      · rw [if_pos b1] at hf; omega
      · rw [if_neg b1] at hf
        by_cases b2 : q = i
        · omega
        · rw [if_neg b2] at hf; omega
    · rw [if_neg a2] at he
      by_cases b1 : q = j
      · rw [if_pos b1] at hf; omega
      · rw [if_neg b1] at hf
        by_cases b2 : q = i
        · rw [if_pos b2] at hf; omega
        · rw [if_neg b2] at hf; omega
/-- The exchanges from the place i down. -/
def arrD (num : Nat → Nat) : Nat → List Nat → List Nat
  | 0, l => l
  | i + 1, l => arrD num i (swapL l (i + 1) (num (i + 1)))
def arrS (num : Nat → Nat) (n : Nat) : List Nat := arrD num (n - 1) (List.range n)
theorem arr_arrD {num : Nat → Nat} {n : Nat} (hn : ∀ i, i < n → num i ≤ i) : ∀ {i : Nat} {l : List Nat}, i < n → ArrL l n → ArrL (arrD num i l) n
  | 0, _, _, h => h
  | i + 1, l, hi, h => arr_arrD (l := swapL l (i + 1) (num (i + 1))) hn (by omega) (arr_swap h hi (by have := hn (i + 1) hi; omega))
theorem arr_arrS {num : Nat → Nat} {n : Nat} (hn : ∀ i, i < n → num i ≤ i) : ArrL (arrS num n) n := by
  rcases Nat.eq_zero_or_pos n with rfl | h
  · exact arr_range 0
  · exact arr_arrD hn (by omega) (arr_range n)

/-- A word: the columns from lo on, the first i of all looked at. -/
def wordF (at_ : List Nat) (n lo : Nat) : Nat → List UInt8
  | 0 => List.replicate n 0
  | i + 1 => if lo ≤ i then (wordF at_ n lo i).set (at_.getD i 0) 1 else wordF at_ n lo i
theorem wordF_length (at_ : List Nat) (n lo : Nat) : ∀ i, (wordF at_ n lo i).length = n
  | 0 => by simp [wordF]
  | i + 1 => by rw [wordF]; split <;> simp [wordF_length at_ n lo i]
theorem wordF_low (at_ : List Nat) (n lo : Nat) : ∀ {i}, i ≤ lo → wordF at_ n lo i = List.replicate n 0
  | 0, _ => rfl
  | i + 1, h => by rw [wordF, if_neg (by omega), wordF_low at_ n lo (by omega)]
theorem wordF_yes {at_ : List Nat} {n lo i : Nat} (h : lo ≤ i) : wordF at_ n lo (i + 1) = (wordF at_ n lo i).set (at_.getD i 0) 1 := by rw [wordF, if_pos h]
theorem wordF_no {at_ : List Nat} {n lo i : Nat} (h : i < lo) : wordF at_ n lo (i + 1) = wordF at_ n lo i := by rw [wordF, if_neg (by omega)]
/-- The symbol of a column. -/
theorem wordF_get {at_ : List Nat} {n lo : Nat} (ha : ArrL at_ n) : ∀ {i p : Nat}, i ≤ n → p < n → (wordF at_ n lo i).getD (at_.getD p 0) 0 = if lo ≤ p ∧ p < i then 1 else 0
  | 0, p, _, hp => by
    rw [if_neg (by omega)]
    have := ha.2.1 p hp
    rw [wordF, List.getD_eq_getElem?_getD, List.getElem?_replicate, if_pos this]; rfl
  | i + 1, p, hi, hp => by
    have ih := wordF_get (lo := lo) ha (i := i) (p := p) (by omega) hp
    have hl := wordF_length at_ n lo i
    have hb := ha.2.1 p hp
    by_cases h : lo ≤ i
    · rw [wordF_yes h, List.getD_eq_getElem?_getD, List.getElem?_set]
      by_cases e : at_.getD i 0 = at_.getD p 0
      · have := ha.2.2 i p (by omega) hp e
        subst this
        rw [if_pos e, if_pos (by rw [hl]; exact ha.2.1 i hp), if_pos ⟨h, by omega⟩]; rfl
      · rw [if_neg e, ← List.getD_eq_getElem?_getD, ih]
        have : i ≠ p := fun e' => e (by rw [e'])
        by_cases h2 : lo ≤ p ∧ p < i
        · rw [if_pos h2, if_pos (by omega)]
        · rw [if_neg h2, if_neg (by omega)]
    · rw [wordF_no (by omega), ih]
      by_cases h2 : lo ≤ p ∧ p < i
      · rw [if_pos h2, if_pos (by omega)]
      · rw [if_neg h2, if_neg (by omega)]
def stepWord (at_ : List Nat) (n lo : Nat) : List UInt8 := wordF at_ n lo n
theorem stepWord_length (at_ : List Nat) (n lo : Nat) : (stepWord at_ n lo).length = n := wordF_length _ _ _ _
theorem wordF_bit (at_ : List Nat) (n lo : Nat) : ∀ (i p : Nat), ((wordF at_ n lo i).getD p 0).toNat ≤ 1
  | 0, p => by
    simp only [wordF, List.getD_eq_getElem?_getD, List.getElem?_replicate]
    split <;> simp
  | i + 1, p => by
    rw [wordF]
    split
    · rw [List.getD_eq_getElem?_getD, List.getElem?_set]
      split
      · split <;> simp
      · rw [← List.getD_eq_getElem?_getD]; exact wordF_bit at_ n lo i p
    · exact wordF_bit at_ n lo i p

/-- The weights, the first i columns looked at. -/
def weightF (at_ : List Nat) (y : List UInt8) (B m : Nat) : Nat → List Nat
  | 0 => List.replicate m 0
  | i + 1 => if y.getD (at_.getD i 0) 0 = 1 then (weightF at_ y B m i).set (i / B) ((weightF at_ y B m i).getD (i / B) 0 + 1) else weightF at_ y B m i
theorem weightF_length (at_ : List Nat) (y : List UInt8) (B m : Nat) : ∀ i, (weightF at_ y B m i).length = m
  | 0 => by simp [weightF]
  | i + 1 => by rw [weightF]; split <;> simp [weightF_length at_ y B m i]
theorem weightF_yes {at_ : List Nat} {y : List UInt8} {B m i : Nat} (h : y.getD (at_.getD i 0) 0 = 1) : weightF at_ y B m (i + 1) = (weightF at_ y B m i).set (i / B) ((weightF at_ y B m i).getD (i / B) 0 + 1) := by rw [weightF, if_pos h]
theorem weightF_no {at_ : List Nat} {y : List UInt8} {B m i : Nat} (h : ¬ y.getD (at_.getD i 0) 0 = 1) : weightF at_ y B m (i + 1) = weightF at_ y B m i := by rw [weightF, if_neg h]
/-- The weight of a block, counted. -/
theorem weightF_get (at_ : List Nat) (y : List UInt8) (B m : Nat) : ∀ {i b : Nat}, b < m → (weightF at_ y B m i).getD b 0 = sumN (fun j => if j / B = b ∧ y.getD (at_.getD j 0) 0 = 1 then 1 else 0) i
  | 0, b, hb => by simp [weightF, sumN, List.getD_eq_getElem?_getD, hb]
  | i + 1, b, hb => by
    have ih := weightF_get at_ y B m (i := i) hb
    have hl := weightF_length at_ y B m i
    rw [sumN_succ, ← ih]
    by_cases h : y.getD (at_.getD i 0) 0 = 1
    · rw [weightF_yes h, List.getD_eq_getElem?_getD, List.getElem?_set]
      by_cases e : i / B = b
      · subst e
        rw [if_pos rfl, if_pos (by rw [hl]; exact hb), if_pos ⟨rfl, h⟩]; rfl
      · rw [if_neg e, if_neg (fun h => e h.1), ← List.getD_eq_getElem?_getD]; rfl
    · rw [weightF_no h, if_neg (fun h' => h h'.2)]; rfl
theorem block_sum (B b : Nat) (hB : 0 < B) : ∀ n, sumN (fun j => if j / B = b then 1 else 0) n = min n ((b + 1) * B) - min n (b * B)
  | 0 => by simp [sumN]
  | n + 1 => by
    rw [sumN_succ, block_sum B b hB n]
    have e : (b + 1) * B = b * B + B := by rw [Nat.add_mul, Nat.one_mul]
    have hd : n / B = b ↔ b * B ≤ n ∧ n < b * B + B := by
      rw [← e, Nat.div_eq_iff hB]
      constructor
      · rintro ⟨h1, h2⟩; exact ⟨h1, by rw [e]; omega⟩
      · rintro ⟨h1, h2⟩; exact ⟨h1, by rw [e] at h2; omega⟩
    by_cases h : n / B = b
    · rw [if_pos h]; have := hd.1 h; omega
    · rw [if_neg h]
      have : ¬ (b * B ≤ n ∧ n < b * B + B) := fun h' => h (hd.2 h')
      omega
theorem weightF_le (at_ : List Nat) (y : List UInt8) (B m : Nat) (hB : 0 < B) {i b : Nat} (hb : b < m) : (weightF at_ y B m i).getD b 0 ≤ B := by
  rw [weightF_get at_ y B m hb]
  refine Nat.le_trans (sumN_le (g := fun j => if j / B = b then 1 else 0) fun j _ => ?_) ?_
  · split
    · rename_i h; rw [if_pos h.1]; omega
    · exact Nat.zero_le _
  · rw [block_sum B b hB]
    have e : (b + 1) * B = b * B + B := by rw [Nat.add_mul, Nat.one_mul]
    omega
def weightsS (at_ : List Nat) (y : List UInt8) (B m : Nat) : List Nat := weightF at_ y B m at_.length

/-- Whether a user is named for some weights. -/
def namedB (users B num den : Nat) (w : List Nat) (u : Nat) : Bool :=
  if u = 0 then decide (0 < w.getD 0 0) else if u + 1 = users then decide (w.getD (u - 1) 0 < B) else decide ((w.getD (u - 1) 0 : Int) ≤ thS B (w.getD (u - 1) 0 + w.getD u 0) num den)
def namesF (P : Nat → Bool) : Nat → List Int
  | 0 => []
  | u + 1 => if P u = true then namesF P u ++ [(u : Int)] else namesF P u
theorem namesF_yes {P : Nat → Bool} {u : Nat} (h : P u = true) : namesF P (u + 1) = namesF P u ++ [(u : Int)] := by rw [namesF, if_pos h]
theorem namesF_no {P : Nat → Bool} {u : Nat} (h : P u = false) : namesF P (u + 1) = namesF P u := by rw [namesF, if_neg (by rw [h]; simp)]
theorem namesF_length (P : Nat → Bool) : ∀ n, (namesF P n).length ≤ n
  | 0 => Nat.le_refl _
  | n + 1 => by
    have := namesF_length P n
    rw [namesF]
    split
    · simp; omega
    · omega
theorem namesF_mem {P : Nat → Bool} : ∀ {n : Nat} {x : Int}, x ∈ namesF P n ↔ ∃ u : Nat, u < n ∧ P u = true ∧ x = (u : Int)
  | 0, x => by simp [namesF]
  | n + 1, x => by
    rw [namesF]
    split
    · rename_i h
      rw [List.mem_append, namesF_mem, List.mem_singleton]
      constructor
      · rintro (⟨u, h1, h2, h3⟩ | rfl)
        · exact ⟨u, by omega, h2, h3⟩
        · exact ⟨n, by omega, h, rfl⟩
      · rintro ⟨u, h1, h2, h3⟩
        by_cases e : u = n
        · subst e; exact .inr h3
        · exact .inl ⟨u, by omega, h2, h3⟩
    · rename_i h
      rw [namesF_mem]
      constructor
      · rintro ⟨u, h1, h2, h3⟩; exact ⟨u, by omega, h2, h3⟩
      · rintro ⟨u, h1, h2, h3⟩
        refine ⟨u, ?_, h2, h3⟩
        rcases Nat.lt_or_ge u n with h4 | h4
        · exact h4
        · obtain rfl : u = n := by omega
          exact absurd h2 h
def namesS (users B num den : Nat) (w : List Nat) : List Int := namesF (namedB users B num den w) users

/-- The weights of a block that name nobody up to it. -/
def mayS (B : Nat) (t : Nat → Int) : Nat → Nat → Bool
  | 0, w => decide (w = 0)
  | j + 1, w => decide (∃ v, v ≤ B ∧ mayS B t j v = true ∧ t (v + w) < (v : Int))
end Go.Proofs.Ytenpkmgbaajeeaa

/- Codes of steps in plain words: sums over the columns; words, weights and names of words; what a complete code names. -/
namespace Go.Proofs.Ytenpkmgbaajeeaa
set_option linter.unusedVariables false

theorem swapL_perm {l : List Nat} {i j : Nat} (hi : i < l.length) (hj : j < l.length) : (swapL l i j).Perm l := by
  have h := Array.swap_perm (xs := l.toArray) (i := i) (j := j) (by simpa using hi) (by simpa using hj)
  have h2 := Array.perm_iff_toList_perm.1 h
  have e : (l.toArray.swap i j (by simpa using hi) (by simpa using hj)).toList = swapL l i j := by
    simp [swapL, Array.swap, List.getD_eq_getElem?_getD, hi, hj]
  rw [e] at h2
  simpa using h2
theorem arrD_perm {num : Nat → Nat} {n : Nat} (hn : ∀ i, i < n → num i ≤ i) : ∀ {i : Nat} {l : List Nat}, i < n → l.length = n → (arrD num i l).Perm l
  | 0, l, _, _ => List.Perm.refl _
  | i + 1, l, hi, hl => (arrD_perm (l := swapL l (i + 1) (num (i + 1))) hn (by omega) (by rw [swapL_length, hl])).trans (swapL_perm (by omega) (by have := hn (i + 1) hi; omega))
theorem arrS_perm {num : Nat → Nat} {n : Nat} (hn : ∀ i, i < n → num i ≤ i) : (arrS num n).Perm (List.range n) := by
  rcases Nat.eq_zero_or_pos n with rfl | h
  · exact List.Perm.refl _
  · exact arrD_perm hn (by omega) (by simp)
theorem sum_range (f : Nat → Nat) : ∀ n, ((List.range n).map f).sum = sumN f n
  | 0 => rfl
  | n + 1 => by rw [List.range_succ, List.map_append, List.sum_append, sum_range f n, sumN_succ]; simp
theorem map_getD (l : List Nat) : (List.range l.length).map (fun i => l.getD i 0) = l := by
  refine List.ext_getElem (by simp) fun i h1 h2 => ?_
  simp [List.getD_eq_getElem?_getD, h2]
/-- A sum over the columns is one over the places. -/
theorem sum_columns {l : List Nat} {n : Nat} (h : l.Perm (List.range n)) (f : Nat → Nat) : sumN (fun i => f (l.getD i 0)) n = sumN f n := by
  have hl : l.length = n := by have := h.length_eq; simpa using this
  have h1 := (h.map f).sum_nat
  rw [sum_range] at h1
  rw [← h1, ← sum_range, ← hl]
  have e : (List.range l.length).map (fun i => f (l.getD i 0)) = ((List.range l.length).map (fun i => l.getD i 0)).map f := by rw [List.map_map]; rfl
  rw [e, map_getD]
theorem stepWord_get {at_ : List Nat} {n lo : Nat} (ha : ArrL at_ n) {p : Nat} (hp : p < n) : (stepWord at_ n lo).getD (at_.getD p 0) 0 = if lo ≤ p then 1 else 0 := by
  unfold stepWord
  rw [wordF_get ha (Nat.le_refl _) hp]
  by_cases h : lo ≤ p
  · rw [if_pos ⟨h, hp⟩, if_pos h]
  · rw [if_neg (fun h' => h h'.1), if_neg h]
/-- How many places of a word are 1. -/
def onesB (l : List UInt8) : Nat → Nat := fun n => sumN (fun p => if l.getD p 0 = 1 then 1 else 0) n
theorem sum_from (lo : Nat) : ∀ n, sumN (fun i => if lo ≤ i then 1 else 0) n = n - lo
  | 0 => by simp [sumN]
  | n + 1 => by
    rw [sumN_succ, sum_from lo n]
    split <;> omega
theorem stepWord_ones {at_ : List Nat} {n lo : Nat} (ha : ArrL at_ n) (hp : at_.Perm (List.range n)) : onesB (stepWord at_ n lo) n = n - lo := by
  unfold onesB
  rw [← sum_columns hp, ← sum_from lo n]
  refine sumN_congr fun i hi => ?_
  rw [stepWord_get ha hi]
  by_cases h : lo ≤ i
  · rw [if_pos h, if_pos h, if_pos rfl]
  · rw [if_neg h, if_neg h, if_neg (by decide)]
theorem ArrL.len {l : List Nat} {n : Nat} (h : ArrL l n) : l.length = n := h.1
/-- The weights of a word of a user. -/
theorem word_weights {at_ : List Nat} {B m u : Nat} (ha : ArrL at_ (m * B)) (hB : 0 < B) {b : Nat} (hb : b < m) : (weightsS at_ (stepWord at_ (m * B) (u * B)) B m).getD b 0 = if u ≤ b then B else 0 := by
  unfold weightsS
  rw [weightF_get _ _ _ _ hb, ha.len]
  by_cases h : u ≤ b
  · rw [if_pos h]
    have e : sumN (fun j => if j / B = b ∧ (stepWord at_ (m * B) (u * B)).getD (at_.getD j 0) 0 = 1 then 1 else 0) (m * B) = sumN (fun j => if j / B = b then 1 else 0) (m * B) := sumN_congr fun j hj => by
      by_cases e : j / B = b
      · have h1 : u * B ≤ j := Nat.le_trans (Nat.mul_le_mul_right B h) (by rw [← e]; exact Nat.div_mul_le_self j B)
        rw [stepWord_get ha hj, if_pos h1, if_pos ⟨e, rfl⟩, if_pos e]
      · rw [if_neg (fun h => e h.1), if_neg e]
    rw [e, block_sum B b hB]
    have h1 := Nat.mul_le_mul_right B (show b + 1 ≤ m by omega)
    have h2 : (b + 1) * B = b * B + B := by rw [Nat.add_mul, Nat.one_mul]
    omega
  · rw [if_neg h]
    refine sumN_zero fun j hj => ?_
    by_cases e : j / B = b
    · have h1 : j < u * B := (Nat.div_lt_iff_lt_mul hB).1 (by rw [e]; omega)
      rw [stepWord_get ha hj, if_neg (show ¬ u * B ≤ j by omega)]; simp
    · rw [if_neg (fun h => e h.1)]
/-- No user's weights reach the last block's size if the code is complete and none of the earlier ones is named. -/
theorem complete_names {users B num den : Nat} {w : List Nat} (hu : 2 ≤ users) (hw : ∀ b, b < users - 1 → w.getD b 0 ≤ B) (hc : mayS B (fun k => thS B k num den) (users - 2) B = false) : ∃ u, u < users ∧ namedB users B num den w u = true := by
  apply Classical.byContradiction
  intro hno
  have hn : ∀ u, u < users → namedB users B num den w u = false := fun u hu => by
    cases h : namedB users B num den w u
    · rfl
    · exact absurd ⟨u, hu, h⟩ hno
  have hm : ∀ j, j ≤ users - 2 → mayS B (fun k => thS B k num den) j (w.getD j 0) = true := by
    intro j
    induction j with
    | zero =>
      intro _
      have := hn 0 (by omega)
      unfold namedB at this
      rw [if_pos rfl] at this
      simp only [decide_eq_false_iff_not] at this
      simp only [mayS, decide_eq_true_eq]
      omega
    | succ j ih =>
      intro hj
      have h1 := hn (j + 1) (by omega)
      unfold namedB at h1
      rw [if_neg (by omega), if_neg (by omega), Nat.add_sub_cancel] at h1
      simp only [decide_eq_false_iff_not, Int.not_le] at h1
      simp only [mayS, decide_eq_true_eq]
      exact ⟨w.getD j 0, hw j (by omega), ih (by omega), h1⟩
  have h2 := hn (users - 1) (by omega)
  unfold namedB at h2
  rw [if_neg (by omega), if_pos (by omega), show users - 1 - 1 = users - 2 from by omega] at h2
  simp only [decide_eq_false_iff_not] at h2
  have h3 := hw (users - 2) (by omega)
  have h4 := hm (users - 2) (Nat.le_refl _)
  rw [show w.getD (users - 2) 0 = B from by omega, hc] at h4
  cases h4
/-- Codes of two users are complete. -/
theorem complete_two {B : Nat} (hB : 0 < B) (t : Nat → Int) : mayS B t 0 B = false := by
  simp only [mayS, decide_eq_false_iff_not]; omega
theorem complete_three {B num den : Nat} (t : Nat → Int) : mayS B t 1 B = decide (t B < 0) := by
  rw [Bool.eq_iff_iff]
  simp only [mayS, decide_eq_true_eq]
  constructor
  · rintro ⟨v, _, rfl, h⟩
    simpa using h
  · intro h
    exact ⟨0, Nat.zero_le _, rfl, by simpa using h⟩
/-- The threshold is below 0 just if not even no marked place is below the limit. -/
theorem thS_neg (d k num den : Nat) : thS d k num den < 0 ↔ underB d k num den 0 = false := by
  unfold thS
  constructor
  · intro h
    cases hu : underB d k num den 0
    · rfl
    · have h1 : lead (underB d k num den) 1 = 1 := lead_go (x := 0) rfl hu
      have h2 : ∀ n, 1 ≤ lead (underB d k num den) (n + 1) := by
        intro n
        induction n with
        | zero => exact Nat.le_of_eq h1.symm
        | succ n ih => rw [lead]; split <;> omega
      have := h2 k
      omega
  · intro h
    rw [lead_stop (P := underB d k num den) (x := 0) (n := k + 1) rfl h (by omega)]
    decide
theorem thS_ge (d k num den : Nat) : -1 ≤ thS d k num den := by unfold thS; omega
theorem thS_le (d k num den : Nat) : thS d k num den ≤ k := by
  unfold thS
  have := lead_le (underB d k num den) (k + 1)
  omega
theorem bin_pos : ∀ {a b : Nat}, b ≤ a → 0 < bin a b
  | a, 0, _ => by rw [bin_zero]; omega
  | 0, b + 1, h => by omega
  | a + 1, b + 1, h => by
    have := bin_pos (a := a) (b := b) (by omega)
    rw [bin_succ]; omega
/-- Below the limit 1 not all divisions are. -/
theorem thS_lt {d k num den : Nat} (hk : k ≤ 2 * d) (hl : num < den) : thS d k num den < k := by
  unfold thS
  have h1 := lead_le (underB d k num den) (k + 1)
  rcases Nat.lt_or_ge k (lead (underB d k num den) (k + 1)) with h | h
  · have h2 := lead_all h
    unfold underB at h2
    rw [divsN_all hk] at h2
    simp only [decide_eq_true_eq] at h2
    have h3 := bin_pos (a := 2 * d) (b := d) (by omega)
    have h4 := Nat.mul_lt_mul_of_pos_left hl h3
    rw [Nat.mul_comm (bin (2 * d) d) num] at h4
    omega
  · omega
theorem thS_under {d k num den : Nat} {x : Nat} (h : (x : Int) ≤ thS d k num den) : divsN d k (x + 1) * den ≤ num * bin (2 * d) d := by
  unfold thS at h
  have := lead_all (P := underB d k num den) (n := k + 1) (x := x) (by omega)
  simpa [underB] using this
theorem thS_over {d k num den : Nat} (h : thS d k num den < k) : num * bin (2 * d) d < divsN d k ((thS d k num den + 2).toNat) * den := by
  unfold thS at h ⊢
  have := lead_end (P := underB d k num den) (n := k + 1) (by omega)
  simp only [underB, decide_eq_false_iff_not, Nat.not_le] at this
  rw [show ((lead (underB d k num den) (k + 1) : Int) - 1 + 2).toNat = lead (underB d k num den) (k + 1) + 1 from by omega]
  exact this
end Go.Proofs.Ytenpkmgbaajeeaa

/- Tails: the program's. -/
namespace Go.Proofs.Ytenpkmgbaajeeaa
open Go.RowKit
set_option linter.unusedVariables false
set_option linter.unusedSimpArgs false

/-- A tail, or the error. -/
def tailS (d k x : Int) : (List Nat × List Nat) × Int := if d < 1 ∨ 64 < d ∨ k < 0 ∨ 2 * d < k ∨ x < -1 ∨ k < x then (([], []), 2) else (lowS (divsN d.toNat k.toNat (x + 1).toNat) (bin (2 * d.toNat) d.toNat), 0)
theorem tailS_no {d k x : Int} (h : d < 1 ∨ 64 < d ∨ k < 0 ∨ 2 * d < k ∨ x < -1 ∨ k < x) : tailS d k x = (([], []), 2) := by rw [tailS, if_pos h]
theorem tailS_yes {d k X : Nat} {x : Int} (hX : x + 1 = (X : Int)) (h1 : 1 ≤ d) (h2 : d ≤ 64) (h3 : k ≤ 2 * d) (h4 : X ≤ k + 1) : tailS (d : Int) (k : Int) x = (lowS (divsN d k X) (bin (2 * d) d), 0) := by
  rw [tailS, if_neg (by omega), hX, Int.toNat_natCast, Int.toNat_natCast, Int.toNat_natCast]
theorem divsN_le {d k x : Nat} (hk : k ≤ 2 * d) (hx : x ≤ k + 1) : divsN d k x ≤ bin (2 * d) d := by
  rw [← divsN_all hk]
  exact sumN_mono _ hx
theorem divsN_succ (d k x : Nat) : divsN d k (x + 1) = divsN d k x + pick k (2 * d - k) d x := rfl
theorem sm_all {d : Nat} (h : d ≤ 64) : Sm (bin (2 * d) d) := sm_bin (by omega)
theorem box2_ (w : World) (c0 z0 : Array Value) (t0 : TypeId) {W : World} (hW : W = (w.alloc (.cells z0 t0)).setRow w.heap.size c0) : Below w.heap.size w W ∧ Blk W w.heap.size t0 c0 := by
  subst hW
  exact ⟨below_setRow (alloc_bel w _) (Nat.le_refl _) _, (Blk.new w _ _).setRow _⟩

set_option maxHeartbeats 8000000 in
set_option maxRecDepth 100000 in
theorem tail_out (d k x : Int) (w : World) (h : d < 1 ∨ 64 < d ∨ k < 0 ∨ 2 * d < k ∨ x < -1 ∨ k < x) :
    Calls Try.prog 14 #[.int .i64 d, .int .i64 k, .int .i64 x] w fun e w' => Frac2 w w' e (tailS d k x) := by
  have HS := Lib.hid (tailS_no h)
  have b0 := alloc_bel w (.cells #[.slice none 0 0, .slice none 0 0] 49)
  by_cases hd : d < 1 ∨ 64 < d
  · clear h
    go_enter Try.func14, Try.ntmps14
    go_wp2_with fail
    all_goals first | omega | exact bodyPost_ret (v := .tuple #[.agg #[.slice none 0 0, .slice none 0 0], .int .i64 2]) (by simp [results, Try.f14, go_sem]) rfl (Frac2.mk' HS.out (FracNew.zero b0))
  · have e1 : IntKind.i64.wrap (2 * d) = 2 * d := by rw [IntKind.wrap_i64]; omega
    have h1 : 1 ≤ d := by omega
    have h2 : d ≤ 64 := by omega
    clear hd
    go_enter Try.func14, Try.ntmps14
    go_wp2_with fail
    all_goals first | omega | exact bodyPost_ret (v := .tuple #[.agg #[.slice none 0 0, .slice none 0 0], .int .i64 2]) (by simp [results, Try.f14, go_sem]) rfl (Frac2.mk' HS.out (FracNew.zero b0))

set_option maxHeartbeats 8000000 in
set_option maxRecDepth 100000 in
theorem tail_in (d k X : Nat) (x : Int) (w : World) (hX : x + 1 = (X : Int)) (h1 : 1 ≤ d) (h2 : d ≤ 64) (h3 : k ≤ 2 * d) (h4 : X ≤ k + 1) :
    Calls Try.prog 14 #[.int .i64 (d : Int), .int .i64 (k : Int), .int .i64 x] w fun e w' => Frac2 w w' e (tailS d k x) := by
  have HS := Lib.hid (tailS_yes hX h1 h2 h3 h4)
  obtain ⟨n, hn⟩ : ∃ n, k + n = 2 * d := ⟨2 * d - k, by omega⟩
  have hn2 : 2 * d - k = n := by omega
  have e1 : IntKind.i64.wrap (2 * (d : Int)) = 2 * (d : Int) := by rw [IntKind.wrap_i64]; omega
  have e2 : IntKind.i64.wrap (x + 1) = (X : Int) := by rw [IntKind.wrap_i64]; omega
  have hd1 : (1 : Int) ≤ d := by omega
  have hd2 : (d : Int) ≤ 64 := by omega
  have hk2 : (k : Int) ≤ 2 * (d : Int) := by omega
  have hx1 : -1 ≤ x := by omega
  have hx2 : x ≤ (k : Int) := by omega
  have hXi : (X : Int) ≤ 129 := by omega
  have HDV : Hid (∀ W, Calls Try.prog 35 #[.int .i64 (d : Int), .int .i64 (k : Int)] W fun e w' => (∃ M cm O co, e = .returned (.agg (divC d k n M cm O co)) ∧ DivR W.heap.size w' k n M cm O co) ∧ Below W.heap.size W w') := fun W => divided_any d k n W h2 hn
  have HWT : Hid (∀ i, i ≤ k → ∀ B M cm O co W, DivR B W k n M cm O co → Calls Try.prog 38 #[.agg (divC d k n M cm O co), .int .i64 (i : Int)] W fun e w' => (∃ X x', e = .returned (.slice X (digs (pick k n d i)).length x') ∧ NR w' X x' (digs (pick k n d i))) ∧ Below W.heap.size W w') := fun i hi B M cm O co W hW => with_any d k n i M cm O co W hW h2 hn (by omega)
  have HAL : Hid (∀ M cm O co W, Calls Try.prog 40 #[.agg (divC d k n M cm O co)] W fun e w' => (∃ X x', e = .returned (.slice X (digs (bin (2 * d) d)).length x') ∧ NR w' X x' (digs (bin (2 * d) d))) ∧ Below W.heap.size W w') := fun M cm O co W => all_any d k n M cm O co W h2
  have HSM : Hid (∀ i, i ≤ k + 1 → Sm (divsN d k i)) := fun i hi => (sm_all h2).mono (divsN_le h3 hi)
  have HSA : Hid (Sm (bin (2 * d) d) ∧ bin (2 * d) d ≠ 0) := ⟨sm_all h2, by have := bin_pos (a := 2 * d) (b := d) (by omega); omega⟩
  have HPK : Hid (∀ i, divsN d k (i + 1) = divsN d k i + pick k n d i) := fun i => by rw [divsN_succ, hn2]
  have HMU : Hid (∀ A n c W, Calls Try.prog 36 #[.slice A n c, .int .i64 0] W fun e w' => e = .returned (.slice A n c) ∧ Below W.heap.size W w') := fun A n c W => must_any A n c 0 W
  have HXK := Lib.hid h4
  obtain ⟨W0, hW0⟩ : ∃ W, W = w.alloc (.cells #[.slice none 0 0, .slice none 0 0] 49) := ⟨_, rfl⟩
  have b0 : Hid (Below w.heap.size w W0) := by unfold Hid; rw [hW0]; exact alloc_bel w _
  have Q0 : Blk W0 w.heap.size 49 #[.slice none 0 0, .slice none 0 0] := by rw [hW0]; exact Blk.new w _ _
  have HQ : Hid (∀ W, Below W0.heap.size W0 W → Blk W w.heap.size 49 #[.slice none 0 0, .slice none 0 0]) := fun W hW => Q0.below' hW
  have HZ0 : Hid (W0.heap.size = w.heap.size + 1) := by unfold Hid; rw [hW0]; simp
  have HW0 := Lib.hid hW0
  clear hW0 Q0 hX h1 h2 h3 h4 hn hn2
  go_enter Try.func14, Try.ntmps14
  go_wp2_with (first
    | (go_at_call 35; rw [← HW0.out]; (with_reducible refine (HDV.out _).mono ?_); rintro e w1 ⟨⟨M, cm, O, co, rfl, hr⟩, hb⟩; have R1 := Lib.hid hr; have D1 := Lib.hid hb; clear hr hb)
    | (refine wpList_store_row rfl 72 (.tmp 8) (.tmp 39) rfl w1.heap.size (divC d k n M cm O co) rfl rfl 72 #[.int .i64 0, .slice none 0 0, .slice none 0 0] (Blk.new w1 _ _) (by kernel_rfl) rfl (by simp [divC, Value.oneCell']) ?_; obtain ⟨w2, hV⟩ : ∃ W, W = (w1.alloc (.cells #[.int .i64 0, .slice none 0 0, .slice none 0 0] 72)).setRow w1.heap.size (divC d k n M cm O co) := ⟨_, rfl⟩; rw [← hV]; obtain ⟨gb, nb⟩ := box2_ _ _ _ _ hV; have D2 := Lib.hid (bel_on D1.out gb); have R2 := Lib.hid (R1.out.below gb); have G2 := Lib.hid nb; clear hV gb nb))
  all_goals first | omega | skip
  go_loopw [9, 42] (fun vs vi wr => ∃ (i ls s : Nat) (S : Option Addr), i ≤ X ∧ vi = .int .i64 (i : Int) ∧ vs = .slice S ls s ∧ Hid ((digs (divsN d k i)).length = ls) ∧ Hid (NR wr S s (digs (divsN d k i))) ∧ Below w2.heap.size w2 wr) (fun _ vi _ => X - (intOf vi).toNat)
  case atStart => exact ⟨0, 0, 0, none, by omega, rfl, rfl, rfl, NR.nil _, Below.refl _ _⟩
  case round =>
    obtain ⟨i, ls, s, S, hi, rfl, rfl, HLS, HRS, hbel⟩ := hrel
    by_cases hlt : i < X
    · have hii : (i : Int) < X := by omega
      have hik : i ≤ k := by have := HXK.out; omega
      obtain ⟨lp, hlp⟩ : ∃ l, (digs (pick k n d i)).length = l := ⟨_, rfl⟩
      obtain ⟨ls2, hls2⟩ : ∃ l, (digs (divsN d k (i + 1))).length = l := ⟨_, rfl⟩
      have HW1 := Lib.hid (HWT.out i hik)
      rw [hlp] at HW1
      have HAD : Hid (∀ A' c' W, NR W S s (digs (divsN d k i)) → NR W A' c' (digs (pick k n d i)) → Calls Try.prog 37 #[.slice S ls s, .slice A' lp c'] W fun e w' => (∃ X x, e = .returned (.tuple #[.slice X ls2 x, .int .i64 0]) ∧ NR w' X x (digs (divsN d k (i + 1)))) ∧ Below W.heap.size W w') := fun A' c' W g1 g2 => by
        have e := HPK.out i
        have hs := HSM.out (i + 1) (by omega)
        rw [e] at hs
        have := addD_any (x := divsN d k i) (y := pick k n d i) hs HLS.out hlp g1 g2
        rwa [← e, hls2] at this
      have HLS2 := Lib.hid hls2
      have B2 := Lib.hid (G2.out.below' hbel)
      have R3 := Lib.hid (R2.out.below hbel)
      clear hlp hls2
      go_wp2_with (first
        | (refine wpList_load_row rfl 72 (.tmp 8) rfl (w1.heap.size) rfl 72 (divC d k n M cm O co) (0, 0) _ B2.out Try.underlying72 rfl (by kernel_rfl) ?_)
        | (go_at_call 38; (with_reducible refine (HW1.out _ _ _ _ _ _ R3.out).mono ?_); rintro e w3 ⟨⟨P3, p3, rfl, hp⟩, hb⟩; have P4 := Lib.hid hp; have S4 := Lib.hid (HRS.out.below hb); have D3 := Lib.hid (bel_on hbel hb); clear hp hb)
        | (go_at_call 37; (with_reducible refine (HAD.out _ _ _ S4.out P4.out).mono ?_); rintro e w4 ⟨⟨S5, s5, rfl, hp⟩, hb⟩; have S6 := Lib.hid hp; have D4 := Lib.hid (bel_on D3.out hb); clear hp hb)
        | (go_at_call 36; (with_reducible refine (HMU.out _ _ _ _).mono ?_); rintro e w5 ⟨rfl, hb⟩; have S7 := Lib.hid (S6.out.below hb); have D5 := Lib.hid (bel_on D4.out hb); clear hb))
      go_roundw
      case rel => exact ⟨i + 1, ls2, s5, S5, by omega, by go_num, rfl, HLS2.out, S7.out, D5.out⟩
      case measure => simp [intOf]; omega
    · obtain rfl : i = X := by omega
      have hx : ¬ ((i : Int) < i) := by omega
      have B2 := Lib.hid (G2.out.below' hbel)
      obtain ⟨la, hla⟩ : ∃ l, (digs (bin (2 * d) d)).length = l := ⟨_, rfl⟩
      have HRT : Hid (∀ A' c' W, NR W S s (digs (divsN d k i)) → NR W A' c' (digs (bin (2 * d) d)) → Calls Try.prog 39 #[.slice S ls s, .slice A' la c'] W fun e w' => ∃ v, e = .returned (.tuple #[v, .int .i64 0]) ∧ FracNew W w' v (lowS (divsN d k i) (bin (2 * d) d))) := fun A' c' W g1 g2 => ratioD_any (HSM.out i HXK.out) HSA.out.1 HSA.out.2 HLS.out hla g1 g2
      rw [hla] at HAL
      clear hla
      go_wp2_with (first
        | (refine wpList_load_row rfl 72 (.tmp 8) rfl (w1.heap.size) rfl 72 (divC d k n M cm O co) (0, 0) _ B2.out Try.underlying72 rfl (by kernel_rfl) ?_)
        | (go_at_call 40; (with_reducible refine (HAL.out _ _ _ _ _).mono ?_); rintro e w3 ⟨⟨P3, p3, rfl, hp⟩, hb⟩; have P4 := Lib.hid hp; have S4 := Lib.hid (HRS.out.below hb); have D3 := Lib.hid (bel_on hbel hb); clear hp hb))
      go_at_call 39
      refine (HRT.out _ _ _ S4.out P4.out).mono ?_
      rintro e w9 ⟨v, rfl, hf⟩
      clear HRT
      obtain ⟨Xa, xc, Y, yd, rfl, hXX, hY, hap, hbf⟩ := hf
      have DF := bel_on D2.out (bel_on D3.out hbf)
      have QF := HQ.out _ DF
      have k0 := QF.cell 0
      have k1 := QF.cell 1
      have f0 := QF.frozen 0
      have f1 := QF.frozen 1
      have HBF := Lib.hid (bel_on b0.out DF)
      have HLE : Hid (w.heap.size + 1 ≤ w3.heap.size) := by
        have a1 := HZ0.out
        have a2 := D2.out.size
        have a3 := D3.out.size
        unfold Hid; omega
      have HFX := Lib.hid (hXX.mono HLE.out)
      have HFY := Lib.hid (hY.mono HLE.out)
      have HAP := Lib.hid hap
      obtain ⟨r, hr⟩ : ∃ r, lowS (divsN d k i) (bin (2 * d) d) = r := ⟨_, rfl⟩
      rw [hr] at HFX HFY HAP HS
      obtain ⟨r1, r2⟩ := r
      dsimp only at HFX HFY HAP HS
      generalize hlx : (lowS (divsN d k i) (bin (2 * d) d)).1.length = lx
      generalize hly : (lowS (divsN d k i) (bin (2 * d) d)).2.length = ly
      rw [hr] at hlx hly
      dsimp only at hlx hly
      have HLX := Lib.hid hlx
      have HLY := Lib.hid hly
      clear QF hXX hY hap hbf hr hlx hly DF
      go_wp2_with fail
      refine bodyPost_ret (v := .tuple #[.agg #[.slice Xa lx xc, .slice Y ly yd], .int .i64 0]) (by simp [results, Try.f14, go_sem, k0, k1, f0, f1]) rfl (Frac2.mk' HS.out ?_)
      rw [← HLX.out, ← HLY.out]
      exact fracNew_store HFX.out HFY.out HAP.out (Nat.le_refl _) HBF.out _ _
theorem Tail_any (d k x : Int) (w : World) : Calls Try.prog 14 #[.int .i64 d, .int .i64 k, .int .i64 x] w fun e w' => Frac2 w w' e (tailS d k x) := by
  by_cases h : d < 1 ∨ 64 < d ∨ k < 0 ∨ 2 * d < k ∨ x < -1 ∨ k < x
  · exact tail_out d k x w h
  · obtain ⟨D, rfl⟩ : ∃ D : Nat, d = (D : Int) := ⟨d.toNat, by omega⟩
    obtain ⟨K, rfl⟩ : ∃ K : Nat, k = (K : Int) := ⟨k.toNat, by omega⟩
    obtain ⟨X, hX⟩ : ∃ X : Nat, x + 1 = (X : Int) := ⟨(x + 1).toNat, by omega⟩
    exact tail_in D K X x w hX (by omega) (by omega) (by omega) (by omega)
end Go.Proofs.Ytenpkmgbaajeeaa

/- Chances of agreement: the program's and the reference's. -/
namespace Go.Proofs.Ytenpkmgbaajeeaa
open Go.RowKit
set_option linter.unusedVariables false
set_option linter.unusedSimpArgs false

/-- The number of choices of at least k out of m, counted up to i. -/
def tailT (m k i : Nat) : Nat := sumN (fun j => if k ≤ j then bin m j else 0) i
theorem tailT_yes {m k i : Nat} (h : k ≤ i) : tailT m k (i + 1) = tailT m k i + bin m i := by unfold tailT; rw [sumN_succ, if_pos h]
theorem tailT_no {m k i : Nat} (h : ¬ k ≤ i) : tailT m k (i + 1) = tailT m k i := by unfold tailT; rw [sumN_succ, if_neg h]; omega
theorem tailT_le (m k i : Nat) (h : i ≤ m + 1) : tailT m k i ≤ 2 ^ m := by
  rw [← sumN_bin m]
  refine Nat.le_trans (sumN_le (g := bin m) fun j _ => ?_) (sumN_mono _ h)
  split
  · exact Nat.le_refl _
  · exact Nat.zero_le _
/-- A chance of agreement, or the error. -/
def mcS (m k : Int) : (List Nat × List Nat) × Int := if m < 0 ∨ 64 < m ∨ k < 0 ∨ 64 < k then (([], []), 2) else (lowS (tailT m.toNat k.toNat (m.toNat + 1)) (2 ^ m.toNat), 0)

set_option maxHeartbeats 4000000 in
set_option maxRecDepth 100000 in
theorem choose_any (m i : Nat) (w : World) (hm : m ≤ 150) (hi : i ≤ m) :
    Calls Try.prog 43 #[.int .i64 (m : Int), .int .i64 (i : Int)] w fun e w' => (∃ A c, e = .returned (.slice A (digs (bin m i)).length c) ∧ NR w' A c (digs (bin m i))) ∧ Below w.heap.size w w' := by
  have hmi : (m : Int) ≤ 150 := by omega
  have him : (i : Int) ≤ m := by omega
  have s0 : decide ((i : Int) < 0) = false := decide_eq_false (by omega)
  have s1 : decide ((m : Int) < (i : Int)) = false := decide_eq_false (by omega)
  have s2 : decide (m < i) = false := decide_eq_false (by omega)
  have HO1 : Hid (∀ W, Calls Try.prog 70 #[.int .u64 1] W fun e w' => (∃ A c, e = .returned (.slice A (digs (bin m 0)).length c) ∧ NR w' A c (digs (bin m 0))) ∧ Below W.heap.size W w') := fun W => by rw [bin_zero]; exact refOfD_any 1 W (by omega)
  go_enter Try.func43, Try.ntmps43
  go_wp2_with (go_at_call 70; refine (HO1.out _).mono ?_; rintro e w1 ⟨⟨A1, c1, rfl, hr1⟩, hb1⟩; have R1 := Lib.hid hr1; clear hr1; generalize hl1 : (digs (bin m 0)).length = l1; have HL1 := Lib.hid hl1; clear hl1)
  go_loopw [5, 6] (fun vc vi wr => ∃ (j l : Nat) (A : Option Addr) (c : Nat), j ≤ i ∧ vi = .int .i64 (j : Int) ∧ vc = .slice A l c ∧ Hid ((digs (bin m j)).length = l) ∧ Hid (NR wr A c (digs (bin m j))) ∧ Below w.heap.size w wr) (fun _ vi _ => i - (intOf vi).toNat)
  case atStart => exact ⟨0, l1, A1, c1, by omega, rfl, rfl, HL1.out, R1.out, hb1⟩
  case round =>
    obtain ⟨j, l, A, c, hj, rfl, rfl, HL, HR, hbel⟩ := hrel
    by_cases hlt : j < i
    · have hji : (j : Int) < i := by omega
      obtain ⟨k, hk⟩ : ∃ k, j + k = m := ⟨m - j, by omega⟩
      obtain ⟨n1, hn1⟩ : ∃ n1, j + 1 = n1 := ⟨_, rfl⟩
      have e1 : IntKind.i64.wrap ((m : Int) - (j : Int)) = (k : Int) := by rw [IntKind.wrap_i64]; omega
      have e2 : (m : Int) - (j : Int) = (k : Int) := by omega
      have e3 : IntKind.u64.wrap (k : Int) = (k : Int) := by rw [IntKind.wrap_u64]; omega
      have e4 : IntKind.u64.wrap ((j : Int) + 1) = (n1 : Int) := by rw [IntKind.wrap_u64]; omega
      obtain ⟨lk, hlk⟩ : ∃ l, (digs k).length = l := ⟨_, rfl⟩
      obtain ⟨lj, hlj⟩ : ∃ l, (digs n1).length = l := ⟨_, rfl⟩
      obtain ⟨lp, hlp⟩ : ∃ l, (digs (bin m j * k)).length = l := ⟨_, rfl⟩
      obtain ⟨lq, hlq⟩ : ∃ l, (digs (bin m (j + 1))).length = l := ⟨_, rfl⟩
      have HOK : Hid (∀ W, Calls Try.prog 70 #[.int .u64 (k : Int)] W fun e w' => (∃ A c, e = .returned (.slice A lk c) ∧ NR w' A c (digs k)) ∧ Below W.heap.size W w') := fun W => by rw [← hlk]; exact refOfD_any k W (by omega)
      have HOJ : Hid (∀ W, Calls Try.prog 70 #[.int .u64 (n1 : Int)] W fun e w' => (∃ A c, e = .returned (.slice A lj c) ∧ NR w' A c (digs n1)) ∧ Below W.heap.size W w') := fun W => by rw [← hlj]; exact refOfD_any n1 W (by omega)
      have HTM : Hid (∀ A' c' B' d' W, NR W A' c' (digs (bin m j)) → NR W B' d' (digs k) → Calls Try.prog 69 #[.slice A' l c', .slice B' lk d'] W fun e w' => (∃ A c, e = .returned (.slice A lp c) ∧ NR w' A c (digs (bin m j * k))) ∧ Below W.heap.size W w') := fun A' c' B' d' W h1 h2 => by rw [← hlp]; exact timesD_any (sm_bin hm) (sm_small (by omega)) HL.out hlk h1 h2
      have HPT : Hid (∀ A' c' B' d' W, NR W A' c' (digs (bin m j * k)) → NR W B' d' (digs n1) → Calls Try.prog 67 #[.slice A' lp c', .slice B' lj d'] W fun e w' => (∃ A c B d lr, e = .returned (.tuple #[.slice A lq c, .slice B lr d]) ∧ NR w' A c (digs (bin m (j + 1)))) ∧ Below W.heap.size W w') := fun A' c' B' d' W h1 h2 => by
        have := partedD_any (x := bin m j * k) (y := n1) (sm_bin_mul hm (by omega)) (sm_small (by omega)) (by omega) hlp hlj h1 h2
        rwa [← hn1, bin_step hk, hlq] at this
      have HLQ := Lib.hid hlq
      have HN1 := Lib.hid hn1
      have tok : True := trivial
      clear hk hn1 hlk hlj hlp hlq
      go_wp2_with (first | (go_at_call 70; have _t := tok; (with_reducible refine (HOK.out _).mono ?_); rintro e w3 ⟨⟨A3, c3, rfl, hr3⟩, hb3⟩; have R3 := Lib.hid hr3; have D3 := bel_on hbel hb3; have HR3 := Lib.hid (HR.out.below hb3); clear tok hr3 hb3) | (go_at_call 69; (with_reducible refine (HTM.out _ _ _ _ _ HR3.out R3.out).mono ?_); rintro e w4 ⟨⟨A4, c4, rfl, hr4⟩, hb4⟩; have R4 := Lib.hid hr4; have D4 := bel_on D3 hb4; clear hr4 hb4) | (go_at_call 70; (with_reducible refine (HOJ.out _).mono ?_); rintro e w5 ⟨⟨A5, c5, rfl, hr5⟩, hb5⟩; have R5 := Lib.hid hr5; have D5 := bel_on D4 hb5; have HR5 := Lib.hid (R4.out.below hb5); clear hr5 hb5) | (go_at_call 67; (with_reducible refine (HPT.out _ _ _ _ _ HR5.out R5.out).mono ?_); rintro e w6 ⟨⟨A6, c6, B6, d6, lr, rfl, hr6⟩, hb6⟩; have R6 := Lib.hid hr6; have D6 := bel_on D5 hb6; clear hr6 hb6))
      go_roundw
      case rel => exact ⟨j + 1, lq, A6, c6, by omega, by go_num, rfl, HLQ.out, R6.out, D6⟩
      case measure => simp [intOf]; omega
    · obtain rfl : j = i := by omega
      have hji : (j : Int) ≤ j := Int.le_refl _
      go_wp2_with fail
      go_ret
      exact ⟨⟨A, c, by rw [HL.out]; rfl, HR.out⟩, hbel⟩
end Go.Proofs.Ytenpkmgbaajeeaa

/- Tails: the reference's. -/
namespace Go.Proofs.Ytenpkmgbaajeeaa
open Go.RowKit
set_option linter.unusedVariables false
set_option linter.unusedSimpArgs false

set_option maxHeartbeats 4000000 in
set_option maxRecDepth 100000 in
theorem refChoose_any (m : Nat) (b : Int) (w : World) (hm : m ≤ 150) :
    Calls Try.prog 43 #[.int .i64 (m : Int), .int .i64 b] w fun e w' => (∃ A c, e = .returned (.slice A (digs (chS m b)).length c) ∧ NR w' A c (digs (chS m b))) ∧ Below w.heap.size w w' := by
  by_cases h : b < 0 ∨ (m : Int) < b
  · have HS : Hid (chS m b = 0) := by rcases h with h | h; exact chS_neg h; exact chS_above h
    have hmi : (m : Int) ≤ 150 := by omega
    clear hm
    go_enter Try.func43, Try.ntmps43
    go_wp2_with fail
    all_goals first | omega | (go_ret; exact ⟨⟨none, 0, by rw [HS.out]; rfl, by rw [HS.out]; exact NR.nil _⟩, Below.refl _ _⟩)
  · obtain ⟨i, rfl⟩ : ∃ i : Nat, b = (i : Int) := ⟨b.toNat, by omega⟩
    rw [chS_nat]
    exact choose_any m i w hm (by omega)
set_option maxHeartbeats 8000000 in
set_option maxRecDepth 100000 in
theorem refDivisions_any (d k X : Nat) (x : Int) (w : World) (hX : x + 1 = (X : Int)) (h1 : 1 ≤ d) (h2 : d ≤ 64) (h3 : k ≤ 2 * d) (h4 : X ≤ k + 1) :
    Calls Try.prog 42 #[.int .i64 (d : Int), .int .i64 (k : Int), .int .i64 x] w fun e w' => (∃ A c, e = .returned (.slice A (digs (divsN d k X)).length c) ∧ NR w' A c (digs (divsN d k X))) ∧ Below w.heap.size w w' := by
  obtain ⟨n, hn⟩ : ∃ n, k + n = 2 * d := ⟨2 * d - k, by omega⟩
  have hn2 : 2 * d - k = n := by omega
  have e1 : IntKind.i64.wrap (2 * (d : Int)) = 2 * (d : Int) := by rw [IntKind.wrap_i64]; omega
  have e2 : IntKind.i64.wrap (2 * (d : Int) - (k : Int)) = (n : Int) := by rw [IntKind.wrap_i64]; omega
  have e2' : 2 * (d : Int) - (k : Int) = (n : Int) := by omega
  have hd1 : (1 : Int) ≤ d := by omega
  have hd2 : (d : Int) ≤ 64 := by omega
  have hk2 : (k : Int) ≤ 2 * (d : Int) := by omega
  have hXi : (X : Int) ≤ 129 := by omega
  have HC1 : Hid (∀ i W, Calls Try.prog 43 #[.int .i64 (k : Int), .int .i64 ((i : Nat) : Int)] W fun e w' => (∃ A c, e = .returned (.slice A (digs (chS k (i : Int))).length c) ∧ NR w' A c (digs (chS k (i : Int)))) ∧ Below W.heap.size W w') := fun i W => refChoose_any k i W (by omega)
  have HC2 : Hid (∀ z W, Calls Try.prog 43 #[.int .i64 (n : Int), .int .i64 z] W fun e w' => (∃ A c, e = .returned (.slice A (digs (chS n z)).length c) ∧ NR w' A c (digs (chS n z))) ∧ Below W.heap.size W w') := fun z W => refChoose_any n z W (by omega)
  have HS1 : Hid (∀ z, Sm (chS k z)) := fun z => (sm_pow (m := 128) (by omega)).mono (Nat.le_trans (chS_le k z) (Nat.pow_le_pow_right (by omega) (by omega)))
  have HS2 : Hid (∀ z, Sm (chS n z)) := fun z => (sm_pow (m := 128) (by omega)).mono (Nat.le_trans (chS_le n z) (Nat.pow_le_pow_right (by omega) (by omega)))
  have HSM : Hid (∀ i, i ≤ k + 1 → Sm (divsN d k i)) := fun i hi => (sm_all h2).mono (divsN_le h3 hi)
  have HPK : Hid (∀ i, divsN d k (i + 1) = divsN d k i + pick k n d i) := fun i => by rw [divsN_succ, hn2]
  have HXK := Lib.hid h4
  clear h1 h2 h3 h4 hn hn2
  go_enter Try.func42, Try.ntmps42
  go_wp2_with fail
  go_loopw [7, 8] (fun vs vi wr => ∃ (i ls s : Nat) (S : Option Addr), i ≤ X ∧ vi = .int .i64 (i : Int) ∧ vs = .slice S ls s ∧ Hid ((digs (divsN d k i)).length = ls) ∧ Hid (NR wr S s (digs (divsN d k i))) ∧ Below w.heap.size w wr) (fun _ vi _ => X - (intOf vi).toNat)
  case atStart => exact ⟨0, 0, 0, none, by omega, rfl, rfl, rfl, NR.nil _, Below.refl _ _⟩
  case round =>
    obtain ⟨i, ls, s, S, hi, rfl, rfl, HLS, HRS, hbel⟩ := hrel
    by_cases hlt : i < X
    · have hii : (i : Int) ≤ x := by omega
      have hik : i ≤ k := by have := HXK.out; omega
      have e3 : IntKind.i64.wrap ((d : Int) - (i : Int)) = (d : Int) - (i : Int) := by rw [IntKind.wrap_i64]; omega
      obtain ⟨z, hz⟩ : ∃ z, (d : Int) - (i : Int) = z := ⟨_, rfl⟩
      have hpk : chS k (i : Int) * chS n z = pick k n d i := by rw [← hz]; exact pick_chS k n d i
      have e4 : IntKind.i64.wrap ((d : Int) - (i : Int)) = z := by rw [e3, hz]
      obtain ⟨l1, hl1⟩ : ∃ l, (digs (chS k (i : Int))).length = l := ⟨_, rfl⟩
      obtain ⟨l2, hl2⟩ : ∃ l, (digs (chS n z)).length = l := ⟨_, rfl⟩
      obtain ⟨lp, hlp⟩ : ∃ l, (digs (pick k n d i)).length = l := ⟨_, rfl⟩
      obtain ⟨ls2, hls2⟩ : ∃ l, (digs (divsN d k (i + 1))).length = l := ⟨_, rfl⟩
      have HD1 := Lib.hid (HC1.out i)
      have HD2 := Lib.hid (HC2.out z)
      rw [hl1] at HD1
      rw [hl2] at HD2
      have HTM : Hid (∀ A' c' B' d' W, NR W A' c' (digs (chS k (i : Int))) → NR W B' d' (digs (chS n z)) → Calls Try.prog 69 #[.slice A' l1 c', .slice B' l2 d'] W fun e w' => (∃ A c, e = .returned (.slice A lp c) ∧ NR w' A c (digs (pick k n d i))) ∧ Below W.heap.size W w') := fun A' c' B' d' W g1 g2 => by
        have := timesD_any (HS1.out (i : Int)) (HS2.out z) hl1 hl2 g1 g2
        rwa [hpk, hlp] at this
      have HAD : Hid (∀ A' c' W, NR W S s (digs (divsN d k i)) → NR W A' c' (digs (pick k n d i)) → Calls Try.prog 68 #[.slice S ls s, .slice A' lp c'] W fun e w' => (∃ X x, e = .returned (.slice X ls2 x) ∧ NR w' X x (digs (divsN d k (i + 1)))) ∧ Below W.heap.size W w') := fun A' c' W g1 g2 => by
        have e := HPK.out i
        have hs := HSM.out (i + 1) (by omega)
        rw [e] at hs
        have := plusD_any (x := divsN d k i) (y := pick k n d i) hs HLS.out hlp g1 g2
        rwa [← e, hls2] at this
      have HLS2 := Lib.hid hls2
      generalize digs (chS k (i : Int)) = d1 at HD1 HTM
      generalize digs (chS n z) = d2 at HD2 HTM
      clear e3 hz hpk hl1 hl2 hlp hls2
      go_wp2_with (first
        | (go_at_call 43; (with_reducible refine (HD1.out _).mono ?_); rintro e w1 ⟨⟨A1, c1, rfl, hp⟩, hb⟩; have T1 := Lib.hid hp; have S1 := Lib.hid (HRS.out.below hb); have D1 := Lib.hid (bel_on hbel hb); clear hp hb)
        | (go_at_call 43; (with_reducible refine (HD2.out _).mono ?_); rintro e w2 ⟨⟨A2, c2, rfl, hp⟩, hb⟩; have U2 := Lib.hid hp; have T2 := Lib.hid (T1.out.below hb); have S2 := Lib.hid (S1.out.below hb); have D2 := Lib.hid (bel_on D1.out hb); clear hp hb)
        | (go_at_call 69; (with_reducible refine (HTM.out _ _ _ _ _ T2.out U2.out).mono ?_); rintro e w3 ⟨⟨A3, c3, rfl, hp⟩, hb⟩; have P3 := Lib.hid hp; have S3 := Lib.hid (S2.out.below hb); have D3 := Lib.hid (bel_on D2.out hb); clear hp hb)
        | (go_at_call 68; (with_reducible refine (HAD.out _ _ _ S3.out P3.out).mono ?_); rintro e w4 ⟨⟨S5, s5, rfl, hp⟩, hb⟩; have S6 := Lib.hid hp; have D4 := Lib.hid (bel_on D3.out hb); clear hp hb))
      go_roundw
      case rel => exact ⟨i + 1, ls2, s5, S5, by omega, by go_num, rfl, HLS2.out, S6.out, D4.out⟩
      case measure => simp [intOf]; omega
    · obtain rfl : i = X := by omega
      have hx : ¬ ((i : Int) ≤ x) := by omega
      go_wp2_with fail
      go_ret
      exact ⟨⟨S, s, by rw [HLS.out]; rfl, HRS.out⟩, hbel⟩
set_option maxHeartbeats 8000000 in
set_option maxRecDepth 100000 in
theorem refTail_out (d k x : Int) (w : World) (h : d < 1 ∨ 64 < d ∨ k < 0 ∨ 2 * d < k ∨ x < -1 ∨ k < x) :
    Calls Try.prog 15 #[.int .i64 d, .int .i64 k, .int .i64 x] w fun e w' => Frac2 w w' e (tailS d k x) := by
  have HS := Lib.hid (tailS_no h)
  have b0 := alloc_bel w (.cells #[.slice none 0 0, .slice none 0 0] 49)
  by_cases hd : d < 1 ∨ 64 < d
  · clear h
    go_enter Try.func15, Try.ntmps15
    go_wp2_with fail
    all_goals first | omega | exact bodyPost_ret (v := .tuple #[.agg #[.slice none 0 0, .slice none 0 0], .int .i64 2]) (by simp [results, Try.f15, go_sem]) rfl (Frac2.mk' HS.out (FracNew.zero b0))
  · have e1 : IntKind.i64.wrap (2 * d) = 2 * d := by rw [IntKind.wrap_i64]; omega
    have h1 : 1 ≤ d := by omega
    have h2 : d ≤ 64 := by omega
    clear hd
    go_enter Try.func15, Try.ntmps15
    go_wp2_with fail
    all_goals first | omega | exact bodyPost_ret (v := .tuple #[.agg #[.slice none 0 0, .slice none 0 0], .int .i64 2]) (by simp [results, Try.f15, go_sem]) rfl (Frac2.mk' HS.out (FracNew.zero b0))
set_option maxHeartbeats 8000000 in
set_option maxRecDepth 100000 in
theorem refTail_in (d k X : Nat) (x : Int) (w : World) (hX : x + 1 = (X : Int)) (h1 : 1 ≤ d) (h2 : d ≤ 64) (h3 : k ≤ 2 * d) (h4 : X ≤ k + 1) :
    Calls Try.prog 15 #[.int .i64 (d : Int), .int .i64 (k : Int), .int .i64 x] w fun e w' => Frac2 w w' e (tailS d k x) := by
  have HS := Lib.hid (tailS_yes hX h1 h2 h3 h4)
  obtain ⟨m, hm⟩ : ∃ m, 2 * d = m := ⟨_, rfl⟩
  have e1 : IntKind.i64.wrap (2 * (d : Int)) = (m : Int) := by rw [IntKind.wrap_i64]; omega
  have e1' : 2 * (d : Int) = (m : Int) := by omega
  have hd1 : (1 : Int) ≤ d := by omega
  have hd2 : (d : Int) ≤ 64 := by omega
  have hk2 : (k : Int) ≤ (m : Int) := by omega
  have hx1 : -1 ≤ x := by omega
  have hx2 : x ≤ (k : Int) := by omega
  have HSM : Hid (Sm (divsN d k X)) := (sm_all h2).mono (divsN_le h3 h4)
  have HSA : Hid (Sm (bin (2 * d) d) ∧ bin (2 * d) d ≠ 0) := ⟨sm_all h2, by have := bin_pos (a := 2 * d) (b := d) (by omega); omega⟩
  have HDV : Hid (∀ W, Calls Try.prog 42 #[.int .i64 (d : Int), .int .i64 (k : Int), .int .i64 x] W fun e w' => (∃ A c, e = .returned (.slice A (digs (divsN d k X)).length c) ∧ NR w' A c (digs (divsN d k X))) ∧ Below W.heap.size W w') := fun W => refDivisions_any d k X x W hX h1 h2 h3 h4
  have HCH : Hid (∀ W, Calls Try.prog 43 #[.int .i64 (m : Int), .int .i64 (d : Int)] W fun e w' => (∃ A c, e = .returned (.slice A (digs (bin m d)).length c) ∧ NR w' A c (digs (bin m d))) ∧ Below W.heap.size W w') := fun W => choose_any m d W (by omega) (by omega)
  rw [hm] at HSA HS
  obtain ⟨ls, hls⟩ : ∃ l, (digs (divsN d k X)).length = l := ⟨_, rfl⟩
  obtain ⟨la, hla⟩ : ∃ l, (digs (bin m d)).length = l := ⟨_, rfl⟩
  have HLW : Hid (∀ A' c' B' d' W, NR W A' c' (digs (divsN d k X)) → NR W B' d' (digs (bin m d)) → Calls Try.prog 41 #[.slice A' ls c', .slice B' la d'] W fun e w' => ∃ v, e = .returned v ∧ FracNew W w' v (lowS (divsN d k X) (bin m d))) := fun A' c' B' d' W g1 g2 => lowestD_any HSM.out HSA.out.1 HSA.out.2 hls hla g1 g2
  rw [hls] at HDV
  rw [hla] at HCH
  obtain ⟨W0, hW0⟩ : ∃ W, W = w.alloc (.cells #[.slice none 0 0, .slice none 0 0] 49) := ⟨_, rfl⟩
  have b0 : Hid (Below w.heap.size w W0) := by unfold Hid; rw [hW0]; exact alloc_bel w _
  have Q0 : Blk W0 w.heap.size 49 #[.slice none 0 0, .slice none 0 0] := by rw [hW0]; exact Blk.new w _ _
  have HQ : Hid (∀ W, Below W0.heap.size W0 W → Blk W w.heap.size 49 #[.slice none 0 0, .slice none 0 0]) := fun W hW => Q0.below' hW
  have HZ0 : Hid (W0.heap.size = w.heap.size + 1) := by unfold Hid; rw [hW0]; simp
  have HW0 := Lib.hid hW0
  clear hW0 Q0 hX h1 h2 h3 h4 hm hls hla
  go_enter Try.func15, Try.ntmps15
  go_wp2_with (first
    | (go_at_call 42; rw [← HW0.out]; (with_reducible refine (HDV.out _).mono ?_); rintro e w1 ⟨⟨S, s, rfl, hr⟩, hb⟩; have S1 := Lib.hid hr; have D1 := Lib.hid hb; clear hr hb)
    | (go_at_call 43; (with_reducible refine (HCH.out _).mono ?_); rintro e w3 ⟨⟨P3, p3, rfl, hp⟩, hb⟩; have P4 := Lib.hid hp; have S4 := Lib.hid (S1.out.below hb); have D3 := Lib.hid (bel_on D1.out hb); clear hp hb)
    | (go_at_call 41; (with_reducible refine (HLW.out _ _ _ _ _ S4.out P4.out).mono ?_); rintro e w9 ⟨v, rfl, hf⟩; obtain ⟨Xa, xc, Y, yd, rfl, hXX, hY, hap, hbf⟩ := hf; have DF := bel_on D3.out hbf; have QF := HQ.out _ DF; have k0 := QF.cell 0; have k1 := QF.cell 1; have f0 := QF.frozen 0; have f1 := QF.frozen 1; have HBF := Lib.hid (bel_on b0.out DF); have HLE : Hid (w.heap.size + 1 ≤ w3.heap.size) := (by have a1 := HZ0.out; have a3 := D3.out.size; unfold Hid; omega); have HFX := Lib.hid (hXX.mono HLE.out); have HFY := Lib.hid (hY.mono HLE.out); have HAP := Lib.hid hap; clear QF hXX hY hap hbf DF))
  all_goals first | omega | skip
  refine bodyPost_ret (v := .tuple #[.agg #[.slice Xa (lowS (divsN d k X) (bin m d)).1.length xc, .slice Y (lowS (divsN d k X) (bin m d)).2.length yd], .int .i64 0]) (by simp [results, Try.f15, go_sem, k0, k1, f0, f1]) rfl (Frac2.mk' HS.out ?_)
  exact fracNew_store HFX.out HFY.out HAP.out (Nat.le_refl _) HBF.out _ _
theorem refTail_any (d k x : Int) (w : World) : Calls Try.prog 15 #[.int .i64 d, .int .i64 k, .int .i64 x] w fun e w' => Frac2 w w' e (tailS d k x) := by
  by_cases h : d < 1 ∨ 64 < d ∨ k < 0 ∨ 2 * d < k ∨ x < -1 ∨ k < x
  · exact refTail_out d k x w h
  · obtain ⟨D, rfl⟩ : ∃ D : Nat, d = (D : Int) := ⟨d.toNat, by omega⟩
    obtain ⟨K, rfl⟩ : ∃ K : Nat, k = (K : Int) := ⟨k.toNat, by omega⟩
    obtain ⟨X, hX⟩ : ∃ X : Nat, x + 1 = (X : Int) := ⟨(x + 1).toNat, by omega⟩
    exact refTail_in D K X x w hX (by omega) (by omega) (by omega) (by omega)
end Go.Proofs.Ytenpkmgbaajeeaa
