/-
  Lemmas and contracts, joined.
-/
import Derived.Test.YtenpkmgbaajeeaaGreatCodeLevelsW1
import Derived.Test.YtenpkmgbaajeeaaGreatCp3
set_option linter.unusedSimpArgs false
set_option linter.unusedVariables false
set_option linter.unnecessarySimpa false
/- The accused of a code of two levels: the program's. -/
namespace Go.Proofs.YtenpkmgbaajeeaaGreat
open Go.RowKit
set_option linter.unusedVariables false
set_option linter.unusedSimpArgs false

set_option maxHeartbeats 8000000 in
set_option maxRecDepth 1000000 in
theorem TraceLevels_any (l : LevV) (Y : Option Addr) (c : Nat) (y : List UInt8) (w : World) (h : LevOK w l) {n : Nat} (hy : y.length = n) (hY : BR w Y c y) :
    Calls Tryz.prog 39 #[.agg l.cs.toArray, .slice Y n c] w fun e w' => PairsErr (l.accR y) e w' ∧ Below w.heap.size w w' := by
  have hk := h.k16
  obtain ⟨W0, hW0⟩ : ∃ W : World, W = w.alloc (.cells l.cs.toArray 60) := ⟨_, rfl⟩
  have b0 : Hid (Below w.heap.size w W0) := by unfold Hid; rw [hW0]; exact alloc_below _ _
  have x0 : Hid (Blk W0 w.heap.size 60 l.cs.toArray) := by unfold Hid; rw [hW0]; exact Blk.new w _ _
  have HW0 := Lib.hid hW0
  have HIN := Lib.hid (infoV (LevV.len hk))
  have HX : Hid (∀ W, Below W0.heap.size W0 W → Blk W w.heap.size 60 l.cs.toArray) := fun W hW => x0.out.below' hW
  have HC : Hid (∀ W, Below W0.heap.size W0 W → W.cell? ⟨w.heap.size, 0, none⟩ = some (.int .i64 l.g) ∧ W.cell? ⟨w.heap.size, 1, none⟩ = some (.int .i64 l.m) ∧ W.cell? ⟨w.heap.size, 2, none⟩ = some (.int .i64 l.b)) := fun W hW => by
    obtain ⟨c0, c1, c2, -, -⟩ := LevV.cells hk (x0.out.below' hW)
    exact ⟨c0, c1, c2⟩
  have HCK : Hid (∀ W, Below w.heap.size w W → Calls Tryz.prog 37 #[.agg l.cs.toArray] W fun e w' => e = .returned (.int .i64 (ckSt l.ok)) ∧ Below W.heap.size W w') := fun W hW => CheckLevels_any l W (h.below hW)
  have hny : (n : Int) ≤ 140737488351232 := by have := hY.len; omega
  cases hok : l.ok with
  | false =>
    rw [hok, show ckSt false = 70 from rfl] at HCK
    have HR : Hid (l.accR y = ([], 70)) := by unfold Hid LevV.accR; rw [if_pos hok]
    generalize l.accR y = r at HR ⊢
    generalize l.cs = cs at *
    clear h hok hk hW0
    go_enter Tryz.func39, Tryz.ntmps39
    go_wp2_with (first
      | (rw [← HW0.out])
      | (refine wpList_load_row rfl 60 (.tmp 2) rfl (w.heap.size) rfl 60 cs.toArray (0, 0) _ x0.out Tryz.underlying60 rfl HIN.out ?_)
      | (go_at_call 37; (with_reducible refine (HCK.out _ b0.out).mono ?_); rintro e w1 ⟨rfl, hb⟩; have D1 := Lib.hid (bel_on b0.out hb); have G1 := Lib.hid hb; obtain ⟨c0, c1, c2⟩ := HC.out _ hb; clear hb))
    go_ret2
    exact ⟨pairsErr_nil _ _ HR.out, D1.out⟩
  | true =>
    rw [hok, show ckSt true = 0 from rfl] at HCK
    obtain ⟨q1, q2, q3, q4, q5, q6⟩ := LevV.bounds hok
    obtain ⟨t1, t2, t3, t4, t5⟩ := LevV.tot_le hok
    have HCP : Hid (∀ W, Below w.heap.size w W → Calls Tryz.prog 93 #[.slice Y n c, .int .i64 (l.tot : Int)] W fun e w' => e = .returned (.bool (copyB y l.tot)) ∧ Below W.heap.size W w') := fun W hW => isCopy_any Y c y l.tot W hy (hY.below hW) (by omega)
    obtain ⟨u1, hu1⟩ : ∃ u, l.g - 1 = u := ⟨_, rfl⟩
    obtain ⟨u2, hu2⟩ : ∃ u, l.m - 1 = u := ⟨_, rfl⟩
    rw [hu1] at t4
    rw [hu1, hu2] at t5
    have a1 : IntKind.i64.wrap (l.g - 1) = u1 := by rw [IntKind.wrap_i64]; omega
    have a2 : IntKind.i64.wrap (l.m - 1) = u2 := by rw [IntKind.wrap_i64]; omega
    have a3 : IntKind.i64.wrap (u1 * l.b) = (l.half : Int) := by rw [← t4, IntKind.wrap_i64]; omega
    have a3' : u1 * l.b = (l.half : Int) := t4.symm
    obtain ⟨u3, hu3⟩ : ∃ u, u2 * l.b = u := ⟨_, rfl⟩
    rw [hu3, ← t4] at t5
    have a4 : IntKind.i64.wrap u3 = u3 := by rw [IntKind.wrap_i64]; omega
    have a5 : IntKind.i64.wrap ((l.half : Int) + u3) = (l.tot : Int) := by rw [← t5, IntKind.wrap_i64]; omega
    have a5' : (l.half : Int) + u3 = (l.tot : Int) := t5.symm
    have a6 : IntKind.i64.wrap u1 = u1 := by rw [IntKind.wrap_i64]; omega
    have a7 : IntKind.i64.wrap u2 = u2 := by rw [IntKind.wrap_i64]; omega
    have a8 : IntKind.i64.wrap (l.half : Int) = (l.half : Int) := by rw [IntKind.wrap_i64]; omega
    have a9 : IntKind.i64.wrap (l.tot : Int) = (l.tot : Int) := by rw [IntKind.wrap_i64]; omega
    cases hc : copyB y l.tot with
    | false =>
      have HR : Hid (l.accR y = ([], 71)) := by unfold Hid LevV.accR; rw [if_neg (by rw [hok]; simp), if_pos hc]
      rw [hc] at HCP
      generalize l.accR y = r at HR ⊢
      generalize l.half = hf at *
      generalize l.tot = tt at *
      generalize l.g = G at *
      generalize l.m = M at *
      generalize l.b = bb at *
      generalize l.cs = cs at *
      clear h hok hk hW0 hc hu1 hu2 t4 t5
      go_enter Tryz.func39, Tryz.ntmps39
      go_wp2_with (first
        | (rw [← HW0.out])
        | (refine wpList_load_row rfl 60 (.tmp 2) rfl (w.heap.size) rfl 60 cs.toArray (0, 0) _ x0.out Tryz.underlying60 rfl HIN.out ?_)
        | (go_at_call 37; (with_reducible refine (HCK.out _ b0.out).mono ?_); rintro e w1 ⟨rfl, hb⟩; have D1 := Lib.hid (bel_on b0.out hb); have G1 := Lib.hid hb; obtain ⟨c0, c1, c2⟩ := HC.out _ hb; clear hb)
        | (go_at_call 93; (with_reducible refine (HCP.out _ D1.out).mono ?_); rintro e w2 ⟨rfl, hb⟩; have D2 := Lib.hid (bel_on D1.out hb); have G2 := Lib.hid (bel_on G1.out hb); clear hb))
      go_ret2
      exact ⟨pairsErr_nil _ _ HR.out, D2.out⟩
    | true =>
      have HR : Hid (l.accR y = (l.acc y, 0)) := by unfold Hid LevV.accR; rw [if_neg (by rw [hok]; simp), if_neg (by rw [hc]; simp)]
      rw [hc] at HCP
      have hyn : n = l.tot := by rw [← hy]; exact cp_nat hc
      have hnf : l.half ≤ n := by omega
      have hcf : l.half ≤ c := by have := Rd.le hY; omega
      have HP0 : Hid (∀ W, Below w.heap.size w W → Calls Tryz.prog 91 #[.agg l.cs.toArray, .int .i64 0] W fun e w' => e = .returned (.agg (l.part 0).cs.toArray) ∧ Below W.heap.size W w') := fun W hW => part_any l 0 W (h.below hW) (by omega)
      have HP1 : Hid (∀ gn : Nat, gn ≤ 16 → ∀ W, Below w.heap.size w W → Calls Tryz.prog 91 #[.agg l.cs.toArray, .int .i64 (1 + (gn : Int))] W fun e w' => e = .returned (.agg (l.part (gn + 1)).cs.toArray) ∧ Below W.heap.size W w') := fun gn hgn W hW => by
        have := part_any l (gn + 1) W (h.below hW) (by omega)
        rwa [show ((gn + 1 : Nat) : Int) = 1 + (gn : Int) from by omega] at this
      have HTG : Hid (∀ W, Below w.heap.size w W → Calls Tryz.prog 26 #[.agg (l.part 0).cs.toArray, .slice Y l.half c] W fun e w' => (∃ A c', e = .returned (.tuple #[.slice A (l.grs y).length c', .int .i64 0]) ∧ OI W.heap.size w' A c' (l.grs y)) ∧ Below W.heap.size W w') := fun W hW => by
        refine (TraceSteps_own (l.part 0) Y c (y.take l.half) W ((h.part 0).below hW) (by rw [List.length_take]; omega) ((hY.below hW).take _ (by omega))).mono ?_
        rintro e w' ⟨hE, hb⟩
        rw [LevV.nmsR_groups hok hc] at hE
        exact ⟨hE, hb⟩
      have HTM : Hid (∀ (gn : Nat) W, Below w.heap.size w W → Calls Tryz.prog 26 #[.agg (l.part (gn + 1)).cs.toArray, .slice (dropP Y l.half c) (n - l.half) (c - l.half)] W fun e w' => (∃ A c', e = .returned (.tuple #[.slice A ((l.part (gn + 1)).nms (y.drop l.half)).length c', .int .i64 0]) ∧ OI W.heap.size w' A c' ((l.part (gn + 1)).nms (y.drop l.half))) ∧ Below W.heap.size W w') := fun gn W hW => by
        refine (TraceSteps_own (l.part (gn + 1)) _ _ (y.drop l.half) W ((h.part (gn + 1)).below hW) (by rw [List.length_drop, hy]) ((hY.below hW).drop _ (by omega))).mono ?_
        rintro e w' ⟨hE, hb⟩
        rw [LevV.nmsR_members hok hc] at hE
        exact ⟨hE, hb⟩
      have HMS : Hid (∀ gn : Nat, ((l.part (gn + 1)).nms (y.drop l.half)).length ≤ 16) := fun gn => (StV.nms_small (LevV.ok_part hok _) _).1
      have HMM : Hid (∀ gn : Nat, l.mem y (gn : Int) = usS ((l.part (gn + 1)).nms (y.drop l.half))) := fun gn => by unfold LevV.mem; rw [Int.toNat_natCast]
      have HNB : Hid (∀ (gn : Nat), ∀ x ∈ (l.part (gn + 1)).nms (y.drop l.half), 0 ≤ x ∧ x ≤ 16) := fun gn => (StV.nms_small (LevV.ok_part hok _) _).2
      have HGI : Hid (∀ x ∈ l.grs y, 0 ≤ x ∧ x ≤ 16) := (LevV.grs_small hok y).2
      have HMB : Hid (∀ g, (l.mem y g).length ≤ 16) := fun g => LevV.mem_small hok y g
      obtain ⟨hgl, hgb⟩ := LevV.grs_small hok y
      have HGB : Hid (∀ i, i < (l.grs y).length → ∃ gn : Nat, it (l.grs y) i = (gn : Int) ∧ gn ≤ 16) := fun i hi => by
        have := hgb (it (l.grs y) i) (by rw [it_in hi]; exact List.getElem_mem hi)
        exact ⟨(it (l.grs y) i).toNat, by omega, by omega⟩
      have HAC : Hid (∀ k, (l.grs y).length ≤ k → accF (l.grs y) (l.mem y) k = l.acc y) := fun k hk => accF_all _ _ hk
      have HXR : Hid (∀ W, Below W0.heap.size W0 W → W.rangeAt w.heap.size 0 l.cs) := fun W hW => (x0.out.below' hW).range
      have HL21 : Hid (l.cs.length = 21) := LevV.len hk
      have mixed : Tryz.prog.follows Departure.mixedOrders = true := by kernel_rfl
      have HF : Hid (∀ r e w', r = (l.acc y, (0 : Int)) → (∃ A c', e = .returned (.tuple #[.slice A (l.acc y).length c', .int .i64 0]) ∧ ER w' A c' (l.acc y)) → PairsErr r e w') := fun r e w' hr ⟨A, c', he, hB⟩ => by
        subst hr
        exact ⟨A, c', he, hB⟩
      generalize l.accR y = r at HR ⊢
      generalize l.acc y = al at HR HAC HF
      generalize l.mem y = mf at HMM HMB HAC
      generalize l.grs y = gs at *
      generalize (l.part 0).cs = p0 at *
      obtain ⟨pf, hpf⟩ : ∃ f : Nat → List Value, f = fun gn => (l.part (gn + 1)).cs := ⟨_, rfl⟩
      obtain ⟨nf, hnf_⟩ : ∃ f : Nat → List Int, f = fun gn => (l.part (gn + 1)).nms (y.drop l.half) := ⟨_, rfl⟩
      have HP12 : Hid (∀ gn : Nat, gn ≤ 16 → ∀ W, Below w.heap.size w W → Calls Tryz.prog 91 #[.agg l.cs.toArray, .int .i64 (1 + (gn : Int))] W fun e w' => e = .returned (.agg (pf gn).toArray) ∧ Below W.heap.size W w') := by rw [hpf]; exact HP1
      have HTM2 : Hid (∀ (gn : Nat) W, Below w.heap.size w W → Calls Tryz.prog 26 #[.agg (pf gn).toArray, .slice (dropP Y l.half c) (n - l.half) (c - l.half)] W fun e w' => (∃ A c', e = .returned (.tuple #[.slice A (nf gn).length c', .int .i64 0]) ∧ OI W.heap.size w' A c' (nf gn)) ∧ Below W.heap.size W w') := by rw [hpf, hnf_]; exact HTM
      have HMS2 : Hid (∀ gn : Nat, (nf gn).length ≤ 16) := by rw [hnf_]; exact HMS
      have HMM2 : Hid (∀ gn : Nat, mf (gn : Int) = usS (nf gn)) := by rw [hnf_]; exact HMM
      have HNB2 : Hid (∀ (gn : Nat), ∀ x ∈ nf gn, 0 ≤ x ∧ x ≤ 16) := by rw [hnf_]; exact HNB
      clear HP1 HTM HMS HMM HNB hpf hnf_
      generalize l.half = hf at *
      generalize l.tot = tt at *
      generalize l.g = G at *
      generalize l.m = M at *
      generalize l.b = bb at *
      generalize l.cs = cs at *
      have hfi : (hf : Int) ≤ 960 := by omega
      obtain ⟨ng, hng⟩ : ∃ k, gs.length = k := ⟨_, rfl⟩
      have HNG := Lib.hid hng
      rw [hng] at HTG hgl HGB HAC
      have hgi : (ng : Int) ≤ 16 := by omega
      clear h hok hk hW0 hc hu1 hu2 t4 t5 hng hgb hyn
      go_enter Tryz.func39, Tryz.ntmps39
      go_wp2_with (first
        | (rw [← HW0.out])
        | (refine wpList_load_row rfl 60 (.tmp 2) rfl (w.heap.size) rfl 60 cs.toArray (0, 0) _ x0.out Tryz.underlying60 rfl HIN.out ?_)
        | (go_at_call 37; (with_reducible refine (HCK.out _ b0.out).mono ?_); rintro e w1 ⟨rfl, hb⟩; have D1 := Lib.hid (bel_on b0.out hb); have G1 := Lib.hid hb; obtain ⟨c0, c1, c2⟩ := HC.out _ hb; clear hb)
        | (go_at_call 93; (with_reducible refine (HCP.out _ D1.out).mono ?_); rintro e w2 ⟨rfl, hb⟩; have D2 := Lib.hid (bel_on D1.out hb); have G2 := Lib.hid (bel_on G1.out hb); clear hb))
      obtain ⟨v0, hv0⟩ : ∃ W, W = w2.drew := ⟨_, rfl⟩
      have g0 : Below W0.heap.size W0 v0 := by rw [hv0]; exact G2.out.drew
      refine wp_region_noPanic ?_
      refine wp_region_held_drew (S := fun W => W.rangeAt w.heap.size 0 cs) (by kernel_rfl) (by rw [← hv0]; exact HXR.out _ g0) (fun hS => ?_)
      rw [← hv0] at hS ⊢
      clear hv0
      refine hd_load 0 w.heap.size 0 cs 60 (.tmp 2) rfl rfl rfl (by kernel_rfl) (by kernel_rfl) (by kernel_rfl) (fun _ _ _ h => h) rfl (fun w hw => hw) Tryz.underlying60 rfl (infoV' HL21.out) hS ?_
      refine hd_take 2 (.slice Y n c) rfl rfl (by kernel_rfl) (by kernel_rfl) (by kernel_rfl) (fun _ _ _ h => h) (fun w hw => by go_simp) hS ?_
      refine hd_take 3 (.int .i64 (hf : Int)) rfl rfl (by kernel_rfl) (by kernel_rfl) (by kernel_rfl) (fun _ _ _ h => h) (fun w hw => by go_simp) hS ?_
      simp only [List.getElem_toArray, List.getElem_cons_succ, List.getElem_cons_zero, Act.put, List.setIfInBounds_toArray, List.set_cons_zero, List.set_cons_succ]
      refine hd_take 4 (.slice Y hf c) rfl rfl (by kernel_rfl) (by kernel_rfl) (by kernel_rfl) (fun _ _ _ h => h) (fun w hw => by have hx := slice_bytes_to w Y n c hf hcf; simp [go_sem, hx]) hS ?_
      simp only [List.getElem_toArray, List.getElem_cons_succ, List.getElem_cons_zero, Act.put, List.setIfInBounds_toArray, List.set_cons_zero, List.set_cons_succ]
      refine hd_calls 1 91 #[.agg cs.toArray, .int .i64 0] rfl rfl (by kernel_rfl) (by go_simp) ((HP0.out _ (bel_on b0.out g0)).mono ?_)
      rintro e v1 ⟨rfl, hb⟩
      have g1 := bel_on g0 hb
      clear hb
      have hS1 := HXR.out _ g1
      refine ⟨_, rfl, hS1, ?_⟩
      simp only [List.getElem_toArray, List.getElem_cons_succ, List.getElem_cons_zero, Act.put, List.setIfInBounds_toArray, List.set_cons_zero, List.set_cons_succ]
      refine hd_calls 5 26 #[.agg p0.toArray, .slice Y hf c] rfl rfl (by kernel_rfl) (by go_simp) ((HTG.out _ (bel_on b0.out g1)).mono ?_)
      rintro e v2 ⟨⟨GA, gc, rfl, hI⟩, hb⟩
      have g2 := bel_on g1 hb
      have IG := Lib.hid (hI.ir (by rw [HNG.out]; omega) (fun x hx => by have := HGI.out x hx; omega))
      clear hb hI
      have hS2 := HXR.out _ g2
      refine ⟨_, rfl, hS2, ?_⟩
      simp only [List.getElem_toArray, List.getElem_cons_succ, List.getElem_cons_zero, Act.put, List.setIfInBounds_toArray, List.set_cons_zero, List.set_cons_succ]
      refine hd_take 6 (.tuple #[.slice GA ng gc, .int .i64 0]) rfl rfl (by kernel_rfl) (by kernel_rfl) (by kernel_rfl) (fun _ _ _ h => h) (fun w hw => by go_simp) hS2 ?_
      simp only [List.getElem_toArray, List.getElem_cons_succ, List.getElem_cons_zero, Act.put, List.setIfInBounds_toArray, List.set_cons_zero, List.set_cons_succ]
      refine hd_take 7 (.slice GA ng gc) rfl rfl (by kernel_rfl) (by kernel_rfl) (by kernel_rfl) (fun _ _ _ h => h) (fun w hw => by go_simp) hS2 ?_
      refine hd_take 8 (.int .i64 0) rfl rfl (by kernel_rfl) (by kernel_rfl) (by kernel_rfl) (fun _ _ _ h => h) (fun w hw => by go_simp) hS2 ?_
      simp only [List.getElem_toArray, List.getElem_cons_succ, List.getElem_cons_zero, Act.put, List.setIfInBounds_toArray, List.set_cons_zero, List.set_cons_succ]
      refine hd_take 9 (.slice GA ng gc) rfl rfl (by kernel_rfl) (by kernel_rfl) (by kernel_rfl) (fun _ _ _ h => h) (fun w hw => by go_simp) hS2 ?_
      refine hd_take 10 (.int .i64 0) rfl rfl (by kernel_rfl) (by kernel_rfl) (by kernel_rfl) (fun _ _ _ h => h) (fun w hw => by go_simp) hS2 ?_
      refine wpAnyH_done (by kernel_rfl) (NoPanic.normal ?_) _
      simp only [List.getElem_toArray, List.getElem_cons_succ, List.getElem_cons_zero, Act.put, List.setIfInBounds_toArray, List.set_cons_zero, List.set_cons_succ]
      have G3 := Lib.hid g2
      clear g0 g1 g2 hS hS1 hS2
      go_wp2_with fail
      clear c0 c1 c2
      have HD3 : Hid (∀ W, Below v2.heap.size v2 W → Below W0.heap.size W0 W) := fun W hW => bel_on G3.out hW
      have HIG : Hid (∀ W, Below v2.heap.size v2 W → IR W GA gc gs) := fun W hW => IG.out.below hW
      go_loopw [8, 50] (fun vs vi wr => ∃ (i ln c' : Nat) (A : Option Addr), i ≤ ng ∧ vi = .int .i64 (i : Int) ∧ vs = .slice A ln c' ∧ Hid ((accF gs mf i).length = ln) ∧ Hid (OE v2.heap.size wr A c' (accF gs mf i)) ∧ Below v2.heap.size v2 wr) (fun _ vi _ => ng - (intOf vi).toNat)
      case atStart => exact ⟨0, 0, 0, none, by omega, rfl, rfl, rfl, OE.nil _ _, Below.refl _ _⟩
      case round =>
        obtain ⟨i, ln, c', A, hi, rfl, rfl, HL, HO, hbel⟩ := hrel
        by_cases hlt : i < ng
        · have hii : (i : Int) < ng := by omega
          have hi0 : (0 : Int) ≤ i := by omega
          obtain ⟨gn, hgn, hg16⟩ := HGB.out i hlt
          obtain ⟨pb, po, rfl, hpb, hpc⟩ := (HIG.out _ hbel).at_ (i := i) (by have := HNG.out; omega)
          have HSC : Hid (accF gs mf (i + 1) = accF gs mf i ++ prs (gn : Int) (usS (nf gn))) := by
            have := accF_succ (gs := gs) (f := mf) (k := i) (by have := HNG.out; omega)
            rw [hgn, HMM2.out] at this
            exact this
          have hln : ln ≤ 16 * i := by have := accF_len gs mf (fun g _ => HMB.out g) i; rwa [HL.out] at this
          have hln2 : ln ≤ 256 := by omega
          have HPg := Lib.hid (HP12.out gn hg16)
          have HTg := Lib.hid (HTM2.out gn)
          have hu16 := HMS2.out gn
          have HUB := Lib.hid (HNB2.out gn)
          have e1 : IntKind.i64.wrap (1 + (gn : Int)) = 1 + (gn : Int) := by rw [IntKind.wrap_i64]; omega
          rw [hgn] at hpc
          generalize pf gn = pc at HPg HTg
          generalize nf gn = us0 at HTg hu16 HUB HSC
          obtain ⟨n0, hn0⟩ : ∃ k, us0.length = k := ⟨_, rfl⟩
          have HN0 := Lib.hid hn0
          rw [hn0] at HTg hu16
          clear hn0 hgn hln
          go_wp2_with fail
          obtain ⟨s0, hs0⟩ : ∃ W, W = wr.drew := ⟨_, rfl⟩
          have k0 : Below v2.heap.size v2 s0 := by rw [hs0]; exact hbel.drew
          have OS : OE v2.heap.size s0 A c' (accF gs mf i) := by rw [hs0]; exact HO.out
          refine wp_region_noPanic ?_
          refine wp_region_held_drew (S := fun W => W.rangeAt w.heap.size 0 cs) (by kernel_rfl) (by rw [← hs0]; exact HXR.out _ (HD3.out _ k0)) (fun hS => ?_)
          rw [← hs0] at hS ⊢
          clear hs0
          refine hd_load 0 w.heap.size 0 cs 60 (.tmp 2) rfl rfl rfl (by kernel_rfl) (by kernel_rfl) (by kernel_rfl) (fun _ _ _ h => h) rfl (fun w hw => hw) Tryz.underlying60 rfl (infoV' HL21.out) hS ?_
          refine hd_take 1 (.int .i64 (gn : Int)) rfl rfl (by kernel_rfl) (by kernel_rfl) (by kernel_rfl) (fun _ _ _ h => h) (fun w hw => by go_simp) hS ?_
          refine hd_take 4 (.slice Y n c) rfl rfl (by kernel_rfl) (by kernel_rfl) (by kernel_rfl) (fun _ _ _ h => h) (fun w hw => by go_simp) hS ?_
          refine hd_take 5 (.int .i64 (hf : Int)) rfl rfl (by kernel_rfl) (by kernel_rfl) (by kernel_rfl) (fun _ _ _ h => h) (fun w hw => by go_simp) hS ?_
          simp only [List.getElem_toArray, List.getElem_cons_succ, List.getElem_cons_zero, Act.put, List.setIfInBounds_toArray, List.set_cons_zero, List.set_cons_succ]
          refine hd_take 2 (.int .i64 (1 + (gn : Int))) rfl rfl (by kernel_rfl) (by kernel_rfl) (by kernel_rfl) (fun _ _ _ h => h) (fun w hw => by simp [go_sem, e1]) hS ?_
          refine hd_take 6 (.slice (dropP Y hf c) (n - hf) (c - hf)) rfl rfl (by kernel_rfl) (by kernel_rfl) (by kernel_rfl) (fun _ _ _ h => h) (fun w hw => by have hx := slice_bytes_from w Y n c hf hnf; simp [go_sem, hx]) hS ?_
          simp only [List.getElem_toArray, List.getElem_cons_succ, List.getElem_cons_zero, Act.put, List.setIfInBounds_toArray, List.set_cons_zero, List.set_cons_succ]
          refine hd_calls 3 91 #[.agg cs.toArray, .int .i64 (1 + (gn : Int))] rfl rfl (by kernel_rfl) (by go_simp) ((HPg.out _ (bel_on b0.out (HD3.out _ k0))).mono ?_)
          rintro e v3 ⟨rfl, hb⟩
          have k1 := bel_on k0 hb
          have O3 := OS.below hb
          clear hb
          have hS1 := HXR.out _ (HD3.out _ k1)
          refine ⟨_, rfl, hS1, ?_⟩
          simp only [List.getElem_toArray, List.getElem_cons_succ, List.getElem_cons_zero, Act.put, List.setIfInBounds_toArray, List.set_cons_zero, List.set_cons_succ]
          refine hd_calls 7 26 #[.agg pc.toArray, .slice (dropP Y hf c) (n - hf) (c - hf)] rfl rfl (by kernel_rfl) (by go_simp) ((HTg.out _ (bel_on b0.out (HD3.out _ k1))).mono ?_)
          rintro e v4 ⟨⟨UA, uc, rfl, hI⟩, hb⟩
          have g4 := bel_on k1 hb
          have O4 := Lib.hid (O3.below hb)
          have U4 := Lib.hid hI
          clear hb hI
          have hS2 := HXR.out _ (HD3.out _ g4)
          refine ⟨_, rfl, hS2, ?_⟩
          simp only [List.getElem_toArray, List.getElem_cons_succ, List.getElem_cons_zero, Act.put, List.setIfInBounds_toArray, List.set_cons_zero, List.set_cons_succ]
          refine hd_take 8 (.tuple #[.slice UA n0 uc, .int .i64 0]) rfl rfl (by kernel_rfl) (by kernel_rfl) (by kernel_rfl) (fun _ _ _ h => h) (fun w hw => by go_simp) hS2 ?_
          simp only [List.getElem_toArray, List.getElem_cons_succ, List.getElem_cons_zero, Act.put, List.setIfInBounds_toArray, List.set_cons_zero, List.set_cons_succ]
          refine hd_take 9 (.slice UA n0 uc) rfl rfl (by kernel_rfl) (by kernel_rfl) (by kernel_rfl) (fun _ _ _ h => h) (fun w hw => by go_simp) hS2 ?_
          refine hd_take 10 (.int .i64 0) rfl rfl (by kernel_rfl) (by kernel_rfl) (by kernel_rfl) (fun _ _ _ h => h) (fun w hw => by go_simp) hS2 ?_
          simp only [List.getElem_toArray, List.getElem_cons_succ, List.getElem_cons_zero, Act.put, List.setIfInBounds_toArray, List.set_cons_zero, List.set_cons_succ]
          refine hd_take 11 (.slice UA n0 uc) rfl rfl (by kernel_rfl) (by kernel_rfl) (by kernel_rfl) (fun _ _ _ h => h) (fun w hw => by go_simp) hS2 ?_
          refine hd_take 12 (.int .i64 0) rfl rfl (by kernel_rfl) (by kernel_rfl) (by kernel_rfl) (fun _ _ _ h => h) (fun w hw => by go_simp) hS2 ?_
          refine wpAnyH_done (by kernel_rfl) (NoPanic.normal ?_) _
          simp only [List.getElem_toArray, List.getElem_cons_succ, List.getElem_cons_zero, Act.put, List.setIfInBounds_toArray, List.set_cons_zero, List.set_cons_succ]
          clear hS hS1 hS2 k0 k1 OS O3
          by_cases hz : n0 = 0
          · have HUS : Hid (usS us0 = [-1]) := by unfold Hid usS; rw [if_pos (List.eq_nil_of_length_eq_zero (by rw [HN0.out]; exact hz))]
            subst hz
            rw [HUS.out] at HSC
            obtain ⟨V, hV⟩ : ∃ W, W = v4.alloc (.cells #[.int .i64 (-1)] 3) := ⟨_, rfl⟩
            have HIU : Hid (OI v4.heap.size V (some ⟨v4.heap.size, 0, none⟩) 1 [-1]) := by unfold Hid; rw [hV]; exact OI.lit _ v4 [-1] (Nat.le_refl _) (by simp) rfl
            have hV2 : Below v2.heap.size v2 V := by rw [hV]; exact bel_on g4 (alloc_bel _ _)
            have HOV : Hid (OE v2.heap.size V A c' (accF gs mf i)) := by unfold Hid; rw [hV]; exact O4.out.below (alloc_bel _ _)
            have HUX : Hid (∀ x ∈ ([-1] : List Int), -1 ≤ x ∧ x ≤ 16) := by intro x hx; rw [List.mem_singleton.1 hx]; omega
            have HUL : Hid (([-1] : List Int).length = 1) := rfl
            go_wp2_with fail
            rw [← hV]
            clear hV
            obtain ⟨L, hL⟩ : ∃ L : Nat → List Ent, L = fun k => accF gs mf i ++ prs (gn : Int) ([-1].take k) := ⟨_, rfl⟩
            have HL0 : Hid (L 0 = accF gs mf i) := by unfold Hid; rw [hL]; simp [prs]
            have HLS : Hid (∀ k, k < 1 → L (k + 1) = L k ++ [((gn : Int), it [-1] k)]) := fun k hk => by rw [hL]; dsimp only; rw [prs_take (by rw [HUL.out]; exact hk), List.append_assoc]
            have HLE : Hid (L 1 = accF gs mf (i + 1)) := by unfold Hid; rw [hL, HSC.out]; dsimp only; rw [List.take_of_length_le (by rw [HUL.out]; exact Nat.le_refl _)]
            clear hL
            go_loopw [8, 71] (fun vs vi wr => ∃ (k lk ck : Nat) (Ak : Option Addr), k ≤ 1 ∧ vi = .int .i64 (k : Int) ∧ vs = .slice Ak lk ck ∧ Hid ((L k).length = lk) ∧ lk ≤ 256 + k ∧ Hid (OE v2.heap.size wr Ak ck (L k)) ∧ Hid (OI v4.heap.size wr (some ⟨v4.heap.size, 0, none⟩) 1 [-1]) ∧ Below v2.heap.size v2 wr) (fun _ vi _ => 1 - (intOf vi).toNat)
            case atStart => exact ⟨0, ln, c', A, by omega, rfl, rfl, by unfold Hid; rw [HL0.out]; exact HL.out, by omega, by unfold Hid; rw [HL0.out]; exact HOV.out, HIU.out, hV2⟩
            case round =>
              obtain ⟨k, lk, ck, Ak, hk_, rfl, rfl, HLk, hlk, HOk, HIk, hbk⟩ := hrel
              by_cases hlk2 : k < 1
              · have hki : (k : Int) < 1 := by omega
                have hk0 : (0 : Int) ≤ k := by omega
                have hUl := HUL.out
                obtain ⟨ub, uo, hue, _, huc⟩ := (HIk.out.ir (by omega) (fun x hx => by have := HUX.out x hx; omega)).at_ (i := k) (by omega)
                have HPT := Lib.hid (HLS.out k hlk2)
                have hub := HUX.out (it [-1] k) (by rw [it_in (by omega)]; exact List.getElem_mem _)
                obtain ⟨x, hx⟩ : ∃ x, it [-1] k = x := ⟨_, rfl⟩
                rw [hx] at huc HPT hub
                have HUE := Lib.hid hue
                clear hx hue hUl
                injection HUE.out with huu
                injection huu with h1 h2
                subst h1 h2
                rw [Nat.zero_add] at huc
                go_wp2_with (at_builtin; rw [show (#[.int .i64 (gn : Int), .int .i64 x] : Array Value) = (cellsE [((gn : Int), x)]).toArray from rfl]; refine wpList_append_ents _ rfl (.tmp 75) (.tmp 79) rfl v2.heap.size Ak lk ck _ HLk.out rfl (HOk.out.below (alloc_bel wr _)) (some ⟨wr.heap.size, 0, none⟩) 1 1 [((gn : Int), x)] rfl rfl (src_litE [((gn : Int), x)] rfl) (by omega) (by have := hbk.size; simp; omega) ?_; intro A7 c7 w7 ho7 hb7 hg7; have O7 := Lib.hid ho7; have D7 := Lib.hid ((bel_on hbk (alloc_bel wr _)).trans hb7); have I7 := Lib.hid (own_kept (HIk.out.below (alloc_bel wr _)) (HOk.out.below (alloc_bel wr _)) (by decide) (by rw [HLk.out]; exact hg7)); clear ho7 hb7 hg7)
                go_roundw
                case rel => exact ⟨k + 1, lk + 1, c7, A7, by omega, by go_num, rfl, by unfold Hid; rw [HPT.out, List.length_append, HLk.out]; rfl, by omega, by unfold Hid; rw [HPT.out]; exact O7.out, I7.out, D7.out⟩
                case measure => simp [intOf] <;> omega
              · obtain rfl : k = 1 := by omega
                have hx : ¬ ((1 : Int) < 1) := by omega
                rw [HLE.out] at HLk HOk
                go_wp2_with fail
                go_roundw
                case rel => exact ⟨i + 1, lk, ck, Ak, by omega, by go_num, rfl, HLk.out, HOk.out, hbk⟩
                case measure => simp [intOf] <;> omega
          · have HUS : Hid (usS us0 = us0) := by unfold Hid usS; rw [if_neg (fun h => hz (by rw [← HN0.out, h]; rfl))]
            have hz2 : ((n0 : Int) == 0) = false := by rw [beq_eq_false_iff_ne]; omega
            have hz3 : (n0 == 0) = false := by rw [beq_eq_false_iff_ne]; exact hz
            rw [HUS.out] at HSC
            obtain ⟨V, hV⟩ : ∃ W, W = v4 := ⟨_, rfl⟩
            rw [← hV] at U4 O4 g4 ⊢
            have HIU := U4
            have hV2 := g4
            have HOV := O4
            have HUX : Hid (∀ x ∈ us0, -1 ≤ x ∧ x ≤ 16) := fun x hx => by have := HUB.out x hx; omega
            have HUL := HN0
            clear hV
            go_wp2_with fail
            obtain ⟨L, hL⟩ : ∃ L : Nat → List Ent, L = fun k => accF gs mf i ++ prs (gn : Int) (us0.take k) := ⟨_, rfl⟩
            have HL0 : Hid (L 0 = accF gs mf i) := by unfold Hid; rw [hL]; simp [prs]
            have HLS : Hid (∀ k, k < n0 → L (k + 1) = L k ++ [((gn : Int), it us0 k)]) := fun k hk => by rw [hL]; dsimp only; rw [prs_take (by rw [HUL.out]; exact hk), List.append_assoc]
            have HLE : Hid (L n0 = accF gs mf (i + 1)) := by unfold Hid; rw [hL, HSC.out]; dsimp only; rw [List.take_of_length_le (by rw [HUL.out]; exact Nat.le_refl _)]
            clear hL
            go_loopw [8, 71] (fun vs vi wr => ∃ (k lk ck : Nat) (Ak : Option Addr), k ≤ n0 ∧ vi = .int .i64 (k : Int) ∧ vs = .slice Ak lk ck ∧ Hid ((L k).length = lk) ∧ lk ≤ 256 + k ∧ Hid (OE v2.heap.size wr Ak ck (L k)) ∧ Hid (OI v3.heap.size wr UA uc us0) ∧ Below v2.heap.size v2 wr) (fun _ vi _ => n0 - (intOf vi).toNat)
            case atStart => exact ⟨0, ln, c', A, by omega, rfl, rfl, by unfold Hid; rw [HL0.out]; exact HL.out, by omega, by unfold Hid; rw [HL0.out]; exact HOV.out, HIU.out, hV2⟩
            case round =>
              obtain ⟨k, lk, ck, Ak, hk_, rfl, rfl, HLk, hlk, HOk, HIk, hbk⟩ := hrel
              by_cases hlk2 : k < n0
              · have hki : (k : Int) < (n0 : Int) := by omega
                have hk0 : (0 : Int) ≤ k := by omega
                have hUl := HUL.out
                obtain ⟨ub, uo, hue, _, huc⟩ := (HIk.out.ir (by omega) (fun x hx => by have := HUX.out x hx; omega)).at_ (i := k) (by omega)
                have HPT := Lib.hid (HLS.out k hlk2)
                have hub := HUX.out (it us0 k) (by rw [it_in (by omega)]; exact List.getElem_mem _)
                obtain ⟨x, hx⟩ : ∃ x, it us0 k = x := ⟨_, rfl⟩
                rw [hx] at huc HPT hub
                have HUE := Lib.hid hue
                clear hx hue hUl
                obtain rfl := HUE.out
                go_wp2_with (at_builtin; rw [show (#[.int .i64 (gn : Int), .int .i64 x] : Array Value) = (cellsE [((gn : Int), x)]).toArray from rfl]; refine wpList_append_ents _ rfl (.tmp 75) (.tmp 79) rfl v2.heap.size Ak lk ck _ HLk.out rfl (HOk.out.below (alloc_bel wr _)) (some ⟨wr.heap.size, 0, none⟩) 1 1 [((gn : Int), x)] rfl rfl (src_litE [((gn : Int), x)] rfl) (by omega) (by have := hbk.size; simp; omega) ?_; intro A7 c7 w7 ho7 hb7 hg7; have O7 := Lib.hid ho7; have D7 := Lib.hid ((bel_on hbk (alloc_bel wr _)).trans hb7); have I7 := Lib.hid (own_kept (HIk.out.below (alloc_bel wr _)) (HOk.out.below (alloc_bel wr _)) (by decide) (by rw [HLk.out]; exact hg7)); clear ho7 hb7 hg7)
                go_roundw
                case rel => exact ⟨k + 1, lk + 1, c7, A7, by omega, by go_num, rfl, by unfold Hid; rw [HPT.out, List.length_append, HLk.out]; rfl, by omega, by unfold Hid; rw [HPT.out]; exact O7.out, I7.out, D7.out⟩
                case measure => simp [intOf] <;> omega
              · obtain rfl : k = n0 := by omega
                have hx : ¬ ((k : Int) < (k : Int)) := by omega
                rw [HLE.out] at HLk HOk
                go_wp2_with fail
                go_roundw
                case rel => exact ⟨i + 1, lk, ck, Ak, by omega, by go_num, rfl, HLk.out, HOk.out, hbk⟩
                case measure => simp [intOf] <;> omega
        · obtain rfl : i = ng := by omega
          have hx : ¬ ((i : Int) < i) := by omega
          have HE := Lib.hid (HAC.out i (Nat.le_refl _))
          rw [HE.out] at HL HO
          go_wp2_with fail
          go_ret2
          exact ⟨HF.out _ _ _ HR.out ⟨A, c', by rw [HL.out]; rfl, HO.out.er (by rw [HL.out]; have := accF_len gs mf (fun g _ => HMB.out g) i; rw [HE.out, HL.out] at this; omega)⟩, bel_on b0.out (HD3.out _ hbel)⟩
end Go.Proofs.YtenpkmgbaajeeaaGreat

/- The accused of a code of two levels: the reference's. -/
namespace Go.Proofs.YtenpkmgbaajeeaaGreat
open Go.RowKit
set_option linter.unusedVariables false
set_option linter.unusedSimpArgs false

theorem IR.cell_ {w : World} {b o c : Nat} {l : List Int} {i : Nat} (h : IR w (some ⟨b, o, none⟩) c l) (hi : i < l.length) : w.cell? ⟨b, o + i, none⟩ = some (.int .i64 (it l i)) := by
  obtain ⟨b', o', e, _, hc⟩ := h.at_ hi
  injection e with e
  injection e with e1 e2
  subst e1 e2
  exact hc
section
variable {md : Region.Mode} {ops : Array Oper} {Q : Exit → Act → World → Prop} {S : World → Prop} {fuel : Nat} {listed : Array Bool} {a : Act} {w : World}
/-- append to pairs that the call owns, the only operation that may come up. -/
theorem hd_appendE (i : Nat) {oi : Oper} (s x : Operand) (hi : ops[i]? = some oi) (ho : oi.op = .call { callee := .builtin .append, args := #[s, x], argTypes := #[65, 65] }) (hg : oi.guard = none) (hr : Region.ready md ops listed = [i])
    (B : Nat) (A : Option Addr) (n c : Nat) (l : List Ent) (hn : l.length = n) (hs : a.eval s = .slice A n c) (hown : OE B w A c l)
    (X : Option Addr) (m d : Nat) (news : List Ent) (hm : news.length = m) (hx : a.eval x = .slice X m d) (hsrc : Src w 2 X m (cellsE news)) (hlen : n + m ≤ 1000000) (hB : B ≤ w.heap.size)
    (h : ∀ A' c' w', OE B w' A' c' (l ++ news) → Below B w w' → w.grownBy w' (Value.ownBlock (.slice A n c)) → S w' ∧ wpAnyH Tryz.prog md ops Q S fuel (listed.setIfInBounds i true) (a.put oi.dst (.slice A' (n + m) c')) w') : wpAnyH Tryz.prog md ops Q S (fuel + 1) listed a w := by
  obtain ⟨i0, hi0, hz0, hz1, hz2⟩ := info_parts ent_info3
  subst hn hm
  obtain ⟨A', c', w', hrun, h2, h3, h4⟩ := run_append_src (P := Tryz.prog) w B 65 oi.type 108 i0 (.agg (cellsX (0, 0)).toArray) 2 16 Tryz.underlying65 hi0 hz0 hz1 hz2 rfl (by omega) A l.length c (cellsE l) hown X news.length d (cellsE news) hsrc (cells_oneE _) (by simp only [maxLen]; omega) (by omega) hB
  refine hd_one i hi hg hr ?_
  refine Lib.wp_append_run w s x 65 65 ho _ _ hs hx _ w' hrun ?_
  refine h A' c' w' ?_ (grown_below (Below.refl _ _) hown h3 hB (Nat.le_refl _)) h3
  unfold OE
  rw [cellsE_append, List.length_append]
  exact h2
end

set_option maxHeartbeats 8000000 in
set_option maxRecDepth 1000000 in
theorem refTraceLevels_any (l : LevV) (Y : Option Addr) (c : Nat) (y : List UInt8) (w : World) (h : LevOK w l) {n : Nat} (hy : y.length = n) (hY : BR w Y c y) :
    Calls Tryz.prog 40 #[.agg l.cs.toArray, .slice Y n c] w fun e w' => PairsErr (l.accR y) e w' ∧ Below w.heap.size w w' := by
  have hk := h.k16
  obtain ⟨W0, hW0⟩ : ∃ W : World, W = w.alloc (.cells l.cs.toArray 60) := ⟨_, rfl⟩
  have b0 : Hid (Below w.heap.size w W0) := by unfold Hid; rw [hW0]; exact alloc_below _ _
  have x0 : Hid (Blk W0 w.heap.size 60 l.cs.toArray) := by unfold Hid; rw [hW0]; exact Blk.new w _ _
  have HW0 := Lib.hid hW0
  have HIN := Lib.hid (infoV (LevV.len hk))
  have HX : Hid (∀ W, Below W0.heap.size W0 W → Blk W w.heap.size 60 l.cs.toArray) := fun W hW => x0.out.below' hW
  have HC : Hid (∀ W, Below W0.heap.size W0 W → W.cell? ⟨w.heap.size, 0, none⟩ = some (.int .i64 l.g) ∧ W.cell? ⟨w.heap.size, 1, none⟩ = some (.int .i64 l.m) ∧ W.cell? ⟨w.heap.size, 2, none⟩ = some (.int .i64 l.b)) := fun W hW => by
    obtain ⟨c0, c1, c2, -, -⟩ := LevV.cells hk (x0.out.below' hW)
    exact ⟨c0, c1, c2⟩
  have HCK : Hid (∀ W, Below w.heap.size w W → Calls Tryz.prog 64 #[.agg l.cs.toArray] W fun e w' => e = .returned (.bool l.ok) ∧ Below W.heap.size W w') := fun W hW => refValidLevels_any l W (h.below hW)
  have hny : (n : Int) ≤ 140737488351232 := by have := hY.len; omega
  cases hok : l.ok with
  | false =>
    rw [hok] at HCK
    have HR : Hid (l.accR y = ([], 70)) := by unfold Hid LevV.accR; rw [if_pos hok]
    generalize l.accR y = r at HR ⊢
    generalize l.cs = cs at *
    clear h hok hk hW0
    go_enter Tryz.func40, Tryz.ntmps40
    go_wp2_with (first
      | (rw [← HW0.out])
      | (refine wpList_load_row rfl 60 (.tmp 2) rfl (w.heap.size) rfl 60 cs.toArray (0, 0) _ x0.out Tryz.underlying60 rfl HIN.out ?_)
      | (go_at_call 64; (with_reducible refine (HCK.out _ b0.out).mono ?_); rintro e w1 ⟨rfl, hb⟩; have D1 := Lib.hid (bel_on b0.out hb); have G1 := Lib.hid hb; obtain ⟨c0, c1, c2⟩ := HC.out _ hb; clear hb))
    go_ret2
    exact ⟨pairsErr_nil _ _ HR.out, D1.out⟩
  | true =>
    rw [hok] at HCK
    obtain ⟨q1, q2, q3, q4, q5, q6⟩ := LevV.bounds hok
    obtain ⟨t1, t2, t3, t4, t5⟩ := LevV.tot_le hok
    have HCP : Hid (∀ W, Below w.heap.size w W → Calls Tryz.prog 44 #[.slice Y n c, .int .i64 (l.tot : Int)] W fun e w' => e = .returned (.bool (copyB y l.tot)) ∧ W = w') := fun W hW => refIsCopy_any Y c y l.tot W hy (hY.below hW) (by omega)
    obtain ⟨u1, hu1⟩ : ∃ u, l.g - 1 = u := ⟨_, rfl⟩
    obtain ⟨u2, hu2⟩ : ∃ u, l.m - 1 = u := ⟨_, rfl⟩
    rw [hu1] at t4
    rw [hu1, hu2] at t5
    have a1 : IntKind.i64.wrap (l.g - 1) = u1 := by rw [IntKind.wrap_i64]; omega
    have a2 : IntKind.i64.wrap (l.m - 1) = u2 := by rw [IntKind.wrap_i64]; omega
    have a3 : IntKind.i64.wrap (u1 * l.b) = (l.half : Int) := by rw [← t4, IntKind.wrap_i64]; omega
    have a3' : u1 * l.b = (l.half : Int) := t4.symm
    obtain ⟨u3, hu3⟩ : ∃ u, u2 * l.b = u := ⟨_, rfl⟩
    rw [hu3, ← t4] at t5
    have a4 : IntKind.i64.wrap u3 = u3 := by rw [IntKind.wrap_i64]; omega
    have a5 : IntKind.i64.wrap ((l.half : Int) + u3) = (l.tot : Int) := by rw [← t5, IntKind.wrap_i64]; omega
    have a5' : (l.half : Int) + u3 = (l.tot : Int) := t5.symm
    have a6 : IntKind.i64.wrap u1 = u1 := by rw [IntKind.wrap_i64]; omega
    have a7 : IntKind.i64.wrap u2 = u2 := by rw [IntKind.wrap_i64]; omega
    have a8 : IntKind.i64.wrap (l.half : Int) = (l.half : Int) := by rw [IntKind.wrap_i64]; omega
    have a9 : IntKind.i64.wrap (l.tot : Int) = (l.tot : Int) := by rw [IntKind.wrap_i64]; omega
    cases hc : copyB y l.tot with
    | false =>
      have HR : Hid (l.accR y = ([], 71)) := by unfold Hid LevV.accR; rw [if_neg (by rw [hok]; simp), if_pos hc]
      rw [hc] at HCP
      generalize l.accR y = r at HR ⊢
      generalize l.half = hf at *
      generalize l.tot = tt at *
      generalize l.g = G at *
      generalize l.m = M at *
      generalize l.b = bb at *
      generalize l.cs = cs at *
      clear h hok hk hW0 hc hu1 hu2 t4 t5
      go_enter Tryz.func40, Tryz.ntmps40
      go_wp2_with (first
        | (rw [← HW0.out])
        | (refine wpList_load_row rfl 60 (.tmp 2) rfl (w.heap.size) rfl 60 cs.toArray (0, 0) _ x0.out Tryz.underlying60 rfl HIN.out ?_)
        | (go_at_call 64; (with_reducible refine (HCK.out _ b0.out).mono ?_); rintro e w1 ⟨rfl, hb⟩; have D1 := Lib.hid (bel_on b0.out hb); have G1 := Lib.hid hb; obtain ⟨c0, c1, c2⟩ := HC.out _ hb; clear hb)
        | (go_at_call 44; (with_reducible refine (HCP.out _ D1.out).mono ?_); rintro e w2 ⟨rfl, rfl⟩; have D2 := D1; have G2 := G1))
      go_ret2
      exact ⟨pairsErr_nil _ _ HR.out, D2.out⟩
    | true =>
      have HR : Hid (l.accR y = (l.acc y, 0)) := by unfold Hid LevV.accR; rw [if_neg (by rw [hok]; simp), if_neg (by rw [hc]; simp)]
      rw [hc] at HCP
      have hyn : n = l.tot := by rw [← hy]; exact cp_nat hc
      have hnf : l.half ≤ n := by omega
      have hcf : l.half ≤ c := by have := Rd.le hY; omega
      have HP0 : Hid (∀ W, Below w.heap.size w W → Calls Tryz.prog 92 #[.agg l.cs.toArray] W fun e w' => e = .returned (.agg (l.part 0).cs.toArray) ∧ Below W.heap.size W w') := fun W hW => GroupsOf_any l W (h.below hW)
      have HP1 : Hid (∀ gn : Nat, gn ≤ 16 → ∀ W, Below w.heap.size w W → Calls Tryz.prog 65 #[.agg l.cs.toArray, .int .i64 (gn : Int)] W fun e w' => e = .returned (.agg (l.part (gn + 1)).cs.toArray) ∧ Below W.heap.size W w') := fun gn hgn W hW => MembersOf_any l gn W (h.below hW) (by omega)
      have HTG : Hid (∀ W, Below w.heap.size w W → Calls Tryz.prog 27 #[.agg (l.part 0).cs.toArray, .slice Y l.half c] W fun e w' => (∃ A c', e = .returned (.tuple #[.slice A (l.grs y).length c', .int .i64 0]) ∧ OI W.heap.size w' A c' (l.grs y)) ∧ Below W.heap.size W w') := fun W hW => by
        refine (refTraceSteps_own (l.part 0) Y c (y.take l.half) W ((h.part 0).below hW) (by rw [List.length_take]; omega) ((hY.below hW).take _ (by omega))).mono ?_
        rintro e w' ⟨hE, hb⟩
        rw [LevV.nmsR_groups hok hc] at hE
        exact ⟨hE, hb⟩
      have HTM : Hid (∀ (gn : Nat) W, Below w.heap.size w W → Calls Tryz.prog 27 #[.agg (l.part (gn + 1)).cs.toArray, .slice (dropP Y l.half c) (n - l.half) (c - l.half)] W fun e w' => (∃ A c', e = .returned (.tuple #[.slice A ((l.part (gn + 1)).nms (y.drop l.half)).length c', .int .i64 0]) ∧ OI W.heap.size w' A c' ((l.part (gn + 1)).nms (y.drop l.half))) ∧ Below W.heap.size W w') := fun gn W hW => by
        refine (refTraceSteps_own (l.part (gn + 1)) _ _ (y.drop l.half) W ((h.part (gn + 1)).below hW) (by rw [List.length_drop, hy]) ((hY.below hW).drop _ (by omega))).mono ?_
        rintro e w' ⟨hE, hb⟩
        rw [LevV.nmsR_members hok hc] at hE
        exact ⟨hE, hb⟩
      have HMS : Hid (∀ gn : Nat, ((l.part (gn + 1)).nms (y.drop l.half)).length ≤ 16) := fun gn => (StV.nms_small (LevV.ok_part hok _) _).1
      have HMM : Hid (∀ gn : Nat, l.mem y (gn : Int) = usS ((l.part (gn + 1)).nms (y.drop l.half))) := fun gn => by unfold LevV.mem; rw [Int.toNat_natCast]
      have HNB : Hid (∀ (gn : Nat), ∀ x ∈ (l.part (gn + 1)).nms (y.drop l.half), 0 ≤ x ∧ x ≤ 16) := fun gn => (StV.nms_small (LevV.ok_part hok _) _).2
      have HGI : Hid (∀ x ∈ l.grs y, 0 ≤ x ∧ x ≤ 16) := (LevV.grs_small hok y).2
      have HMB : Hid (∀ g, (l.mem y g).length ≤ 16) := fun g => LevV.mem_small hok y g
      obtain ⟨hgl, hgb⟩ := LevV.grs_small hok y
      have HGB : Hid (∀ i, i < (l.grs y).length → ∃ gn : Nat, it (l.grs y) i = (gn : Int) ∧ gn ≤ 16) := fun i hi => by
        have := hgb (it (l.grs y) i) (by rw [it_in hi]; exact List.getElem_mem hi)
        exact ⟨(it (l.grs y) i).toNat, by omega, by omega⟩
      have HAC : Hid (∀ k, (l.grs y).length ≤ k → accF (l.grs y) (l.mem y) k = l.acc y) := fun k hk => accF_all _ _ hk
      have HXR : Hid (∀ W, Below W0.heap.size W0 W → W.rangeAt w.heap.size 0 l.cs) := fun W hW => (x0.out.below' hW).range
      have HL21 : Hid (l.cs.length = 21) := LevV.len hk
      have mixed : Tryz.prog.follows Departure.mixedOrders = true := by kernel_rfl
      have HF : Hid (∀ r e w', r = (l.acc y, (0 : Int)) → (∃ A c', e = .returned (.tuple #[.slice A (l.acc y).length c', .int .i64 0]) ∧ ER w' A c' (l.acc y)) → PairsErr r e w') := fun r e w' hr ⟨A, c', he, hB⟩ => by
        subst hr
        exact ⟨A, c', he, hB⟩
      generalize l.accR y = r at HR ⊢
      generalize l.acc y = al at HR HAC HF
      generalize l.mem y = mf at HMM HMB HAC
      generalize l.grs y = gs at *
      generalize (l.part 0).cs = p0 at *
      obtain ⟨pf, hpf⟩ : ∃ f : Nat → List Value, f = fun gn => (l.part (gn + 1)).cs := ⟨_, rfl⟩
      obtain ⟨nf, hnf_⟩ : ∃ f : Nat → List Int, f = fun gn => (l.part (gn + 1)).nms (y.drop l.half) := ⟨_, rfl⟩
      have HP12 : Hid (∀ gn : Nat, gn ≤ 16 → ∀ W, Below w.heap.size w W → Calls Tryz.prog 65 #[.agg l.cs.toArray, .int .i64 (gn : Int)] W fun e w' => e = .returned (.agg (pf gn).toArray) ∧ Below W.heap.size W w') := by rw [hpf]; exact HP1
      have HTM2 : Hid (∀ (gn : Nat) W, Below w.heap.size w W → Calls Tryz.prog 27 #[.agg (pf gn).toArray, .slice (dropP Y l.half c) (n - l.half) (c - l.half)] W fun e w' => (∃ A c', e = .returned (.tuple #[.slice A (nf gn).length c', .int .i64 0]) ∧ OI W.heap.size w' A c' (nf gn)) ∧ Below W.heap.size W w') := by rw [hpf, hnf_]; exact HTM
      have HMS2 : Hid (∀ gn : Nat, (nf gn).length ≤ 16) := by rw [hnf_]; exact HMS
      have HMM2 : Hid (∀ gn : Nat, mf (gn : Int) = usS (nf gn)) := by rw [hnf_]; exact HMM
      have HNB2 : Hid (∀ (gn : Nat), ∀ x ∈ nf gn, 0 ≤ x ∧ x ≤ 16) := by rw [hnf_]; exact HNB
      clear HP1 HTM HMS HMM HNB hpf hnf_
      generalize l.half = hf at *
      generalize l.tot = tt at *
      generalize l.g = G at *
      generalize l.m = M at *
      generalize l.b = bb at *
      generalize l.cs = cs at *
      have hfi : (hf : Int) ≤ 960 := by omega
      obtain ⟨ng, hng⟩ : ∃ k, gs.length = k := ⟨_, rfl⟩
      have HNG := Lib.hid hng
      rw [hng] at HTG hgl HGB HAC
      have hgi : (ng : Int) ≤ 16 := by omega
      clear h hok hk hW0 hc hu1 hu2 t4 t5 hng hgb hyn
      go_enter Tryz.func40, Tryz.ntmps40
      go_wp2_with (first
        | (rw [← HW0.out])
        | (refine wpList_load_row rfl 60 (.tmp 2) rfl (w.heap.size) rfl 60 cs.toArray (0, 0) _ x0.out Tryz.underlying60 rfl HIN.out ?_)
        | (go_at_call 64; (with_reducible refine (HCK.out _ b0.out).mono ?_); rintro e w1 ⟨rfl, hb⟩; have D1 := Lib.hid (bel_on b0.out hb); have G1 := Lib.hid hb; obtain ⟨c0, c1, c2⟩ := HC.out _ hb; clear hb)
        | (go_at_call 44; (with_reducible refine (HCP.out _ D1.out).mono ?_); rintro e w2 ⟨rfl, rfl⟩; have D2 := D1; have G2 := G1))
      obtain ⟨v0, hv0⟩ : ∃ W, W = w1.drew := ⟨_, rfl⟩
      have g0 : Below W0.heap.size W0 v0 := by rw [hv0]; exact G1.out.drew
      refine wp_region_noPanic ?_
      refine wp_region_held_drew (S := fun W => W.rangeAt w.heap.size 0 cs) (by kernel_rfl) (by rw [← hv0]; exact HXR.out _ g0) (fun hS => ?_)
      rw [← hv0] at hS ⊢
      clear hv0
      refine hd_load 0 w.heap.size 0 cs 60 (.tmp 2) rfl rfl rfl (by kernel_rfl) (by kernel_rfl) (by kernel_rfl) (fun _ _ _ h => h) rfl (fun w hw => hw) Tryz.underlying60 rfl (infoV' HL21.out) hS ?_
      refine hd_take 2 (.slice Y n c) rfl rfl (by kernel_rfl) (by kernel_rfl) (by kernel_rfl) (fun _ _ _ h => h) (fun w hw => by go_simp) hS ?_
      refine hd_take 3 (.int .i64 (hf : Int)) rfl rfl (by kernel_rfl) (by kernel_rfl) (by kernel_rfl) (fun _ _ _ h => h) (fun w hw => by go_simp) hS ?_
      simp only [List.getElem_toArray, List.getElem_cons_succ, List.getElem_cons_zero, Act.put, List.setIfInBounds_toArray, List.set_cons_zero, List.set_cons_succ]
      refine hd_take 4 (.slice Y hf c) rfl rfl (by kernel_rfl) (by kernel_rfl) (by kernel_rfl) (fun _ _ _ h => h) (fun w hw => by have hx := slice_bytes_to w Y n c hf hcf; simp [go_sem, hx]) hS ?_
      simp only [List.getElem_toArray, List.getElem_cons_succ, List.getElem_cons_zero, Act.put, List.setIfInBounds_toArray, List.set_cons_zero, List.set_cons_succ]
      refine hd_calls 1 92 #[.agg cs.toArray] rfl rfl (by kernel_rfl) (by go_simp) ((HP0.out _ (bel_on b0.out g0)).mono ?_)
      rintro e v1 ⟨rfl, hb⟩
      have g1 := bel_on g0 hb
      clear hb
      have hS1 := HXR.out _ g1
      refine ⟨_, rfl, hS1, ?_⟩
      simp only [List.getElem_toArray, List.getElem_cons_succ, List.getElem_cons_zero, Act.put, List.setIfInBounds_toArray, List.set_cons_zero, List.set_cons_succ]
      refine hd_calls 5 27 #[.agg p0.toArray, .slice Y hf c] rfl rfl (by kernel_rfl) (by go_simp) ((HTG.out _ (bel_on b0.out g1)).mono ?_)
      rintro e v2 ⟨⟨GA, gc, rfl, hI⟩, hb⟩
      have g2 := bel_on g1 hb
      have IG := Lib.hid (hI.ir (by rw [HNG.out]; omega) (fun x hx => by have := HGI.out x hx; omega))
      clear hb hI
      have hS2 := HXR.out _ g2
      refine ⟨_, rfl, hS2, ?_⟩
      simp only [List.getElem_toArray, List.getElem_cons_succ, List.getElem_cons_zero, Act.put, List.setIfInBounds_toArray, List.set_cons_zero, List.set_cons_succ]
      refine hd_take 6 (.tuple #[.slice GA ng gc, .int .i64 0]) rfl rfl (by kernel_rfl) (by kernel_rfl) (by kernel_rfl) (fun _ _ _ h => h) (fun w hw => by go_simp) hS2 ?_
      simp only [List.getElem_toArray, List.getElem_cons_succ, List.getElem_cons_zero, Act.put, List.setIfInBounds_toArray, List.set_cons_zero, List.set_cons_succ]
      refine hd_take 7 (.slice GA ng gc) rfl rfl (by kernel_rfl) (by kernel_rfl) (by kernel_rfl) (fun _ _ _ h => h) (fun w hw => by go_simp) hS2 ?_
      refine hd_take 8 (.int .i64 0) rfl rfl (by kernel_rfl) (by kernel_rfl) (by kernel_rfl) (fun _ _ _ h => h) (fun w hw => by go_simp) hS2 ?_
      simp only [List.getElem_toArray, List.getElem_cons_succ, List.getElem_cons_zero, Act.put, List.setIfInBounds_toArray, List.set_cons_zero, List.set_cons_succ]
      refine hd_take 9 (.slice GA ng gc) rfl rfl (by kernel_rfl) (by kernel_rfl) (by kernel_rfl) (fun _ _ _ h => h) (fun w hw => by go_simp) hS2 ?_
      refine hd_take 10 (.int .i64 0) rfl rfl (by kernel_rfl) (by kernel_rfl) (by kernel_rfl) (fun _ _ _ h => h) (fun w hw => by go_simp) hS2 ?_
      refine wpAnyH_done (by kernel_rfl) (NoPanic.normal ?_) _
      simp only [List.getElem_toArray, List.getElem_cons_succ, List.getElem_cons_zero, Act.put, List.setIfInBounds_toArray, List.set_cons_zero, List.set_cons_succ]
      have G3 := Lib.hid g2
      clear g0 g1 g2 hS hS1 hS2
      go_wp2_with fail
      clear c0 c1 c2
      have HD3 : Hid (∀ W, Below v2.heap.size v2 W → Below W0.heap.size W0 W) := fun W hW => bel_on G3.out hW
      have HIG : Hid (∀ W, Below v2.heap.size v2 W → IR W GA gc gs) := fun W hW => IG.out.below hW
      go_loopw [7, 10] (fun vs vi wr => ∃ (i ln c' : Nat) (A : Option Addr), i ≤ ng ∧ vi = .int .i64 (i : Int) ∧ vs = .slice A ln c' ∧ Hid ((accF gs mf i).length = ln) ∧ Hid (OE v2.heap.size wr A c' (accF gs mf i)) ∧ Below v2.heap.size v2 wr) (fun _ vi _ => ng - (intOf vi).toNat)
      case atStart => exact ⟨0, 0, 0, none, by omega, rfl, rfl, rfl, OE.nil _ _, Below.refl _ _⟩
      case round =>
        obtain ⟨i, ln, c', A, hi, rfl, rfl, HL, HO, hbel⟩ := hrel
        by_cases hlt : i < ng
        · have hii : (i : Int) < ng := by omega
          have hi0 : (0 : Int) ≤ i := by omega
          obtain ⟨gn, hgn, hg16⟩ := HGB.out i hlt
          obtain ⟨pb, po, rfl, hpb, hpc⟩ := IG.out.at_ (i := i) (by have := HNG.out; omega)
          have HSC : Hid (accF gs mf (i + 1) = accF gs mf i ++ prs (gn : Int) (usS (nf gn))) := by
            have := accF_succ (gs := gs) (f := mf) (k := i) (by have := HNG.out; omega)
            rw [hgn, HMM2.out] at this
            exact this
          have hln : ln ≤ 16 * i := by have := accF_len gs mf (fun g _ => HMB.out g) i; rwa [HL.out] at this
          have hln2 : ln ≤ 256 := by omega
          have HPg := Lib.hid (HP12.out gn hg16)
          have HTg := Lib.hid (HTM2.out gn)
          have hu16 := HMS2.out gn
          have HUB := Lib.hid (HNB2.out gn)
          have e1 : IntKind.i64.wrap (1 + (gn : Int)) = 1 + (gn : Int) := by rw [IntKind.wrap_i64]; omega
          rw [hgn] at hpc
          have HGC : Hid (∀ W, Below v2.heap.size v2 W → W.cell? ⟨pb, po + i, none⟩ = some (.int .i64 (gn : Int))) := fun W hW => (hW.cell (World.block_lt_of_cell? _ _ hpc)).trans hpc
          clear hpc
          generalize pf gn = pc at HPg HTg
          generalize nf gn = us0 at HTg hu16 HUB HSC
          obtain ⟨n0, hn0⟩ : ∃ k, us0.length = k := ⟨_, rfl⟩
          have HN0 := Lib.hid hn0
          rw [hn0] at HTg hu16
          clear hn0 hgn hln
          go_wp2_with fail
          obtain ⟨s0, hs0⟩ : ∃ W, W = wr.drew := ⟨_, rfl⟩
          have k0 : Below v2.heap.size v2 s0 := by rw [hs0]; exact hbel.drew
          have OS : OE v2.heap.size s0 A c' (accF gs mf i) := by rw [hs0]; exact HO.out
          have HSW : Hid (∀ W, Below v2.heap.size v2 W → W.rangeAt w.heap.size 0 cs ∧ W.cell? ⟨pb, po + i, none⟩ = some (.int .i64 (gn : Int))) := fun W hW => ⟨HXR.out _ (HD3.out _ hW), HGC.out _ hW⟩
          refine wp_region_noPanic ?_
          refine wp_region_held_drew (S := fun W => W.rangeAt w.heap.size 0 cs ∧ W.cell? ⟨pb, po + i, none⟩ = some (.int .i64 (gn : Int))) (by kernel_rfl) (by rw [← hs0]; exact HSW.out _ k0) (fun hS => ?_)
          rw [← hs0] at hS ⊢
          clear hs0
          refine hd_load 0 w.heap.size 0 cs 60 (.tmp 2) rfl rfl rfl (by kernel_rfl) (by kernel_rfl) (by kernel_rfl) (fun _ _ _ h => h) rfl (fun w hw => hw.1) Tryz.underlying60 rfl (infoV' HL21.out) hS ?_
          refine hd_take 1 (.slice (some ⟨pb, po, none⟩) ng gc) rfl rfl (by kernel_rfl) (by kernel_rfl) (by kernel_rfl) (fun _ _ _ h => h) (fun w hw => by go_simp) hS ?_
          refine hd_take 2 (.int .i64 (i : Int)) rfl rfl (by kernel_rfl) (by kernel_rfl) (by kernel_rfl) (fun _ _ _ h => h) (fun w hw => by go_simp) hS ?_
          refine hd_take 6 (.slice Y n c) rfl rfl (by kernel_rfl) (by kernel_rfl) (by kernel_rfl) (fun _ _ _ h => h) (fun w hw => by go_simp) hS ?_
          refine hd_take 7 (.int .i64 (hf : Int)) rfl rfl (by kernel_rfl) (by kernel_rfl) (by kernel_rfl) (fun _ _ _ h => h) (fun w hw => by go_simp) hS ?_
          simp only [List.getElem_toArray, List.getElem_cons_succ, List.getElem_cons_zero, Act.put, List.setIfInBounds_toArray, List.set_cons_zero, List.set_cons_succ]
          refine hd_take 3 (.pointer (some ⟨pb, po + i, none⟩)) rfl rfl (by kernel_rfl) (by kernel_rfl) (by kernel_rfl) (fun _ _ _ h => h) (fun w hw => by go_simp) hS ?_
          refine hd_take 8 (.slice (dropP Y hf c) (n - hf) (c - hf)) rfl rfl (by kernel_rfl) (by kernel_rfl) (by kernel_rfl) (fun _ _ _ h => h) (fun w hw => by have hx := slice_bytes_from w Y n c hf hnf; simp [go_sem, hx]) hS ?_
          simp only [List.getElem_toArray, List.getElem_cons_succ, List.getElem_cons_zero, Act.put, List.setIfInBounds_toArray, List.set_cons_zero, List.set_cons_succ]
          refine hd_take 4 (.int .i64 (gn : Int)) rfl rfl (by kernel_rfl) (by kernel_rfl) (by kernel_rfl) (fun _ _ _ h => h) (fun w hw => by have hx := hw.2; simp [go_sem, hx]) hS ?_
          simp only [List.getElem_toArray, List.getElem_cons_succ, List.getElem_cons_zero, Act.put, List.setIfInBounds_toArray, List.set_cons_zero, List.set_cons_succ]
          refine hd_calls 5 65 #[.agg cs.toArray, .int .i64 (gn : Int)] rfl rfl (by kernel_rfl) (by go_simp) ((HPg.out _ (bel_on b0.out (HD3.out _ k0))).mono ?_)
          rintro e v3 ⟨rfl, hb⟩
          have k1 := bel_on k0 hb
          have O3 := OS.below hb
          clear hb
          have hS1 := HSW.out _ k1
          refine ⟨_, rfl, hS1, ?_⟩
          simp only [List.getElem_toArray, List.getElem_cons_succ, List.getElem_cons_zero, Act.put, List.setIfInBounds_toArray, List.set_cons_zero, List.set_cons_succ]
          refine hd_calls 9 27 #[.agg pc.toArray, .slice (dropP Y hf c) (n - hf) (c - hf)] rfl rfl (by kernel_rfl) (by go_simp) ((HTg.out _ (bel_on b0.out (HD3.out _ k1))).mono ?_)
          rintro e v4 ⟨⟨UA, uc, rfl, hI⟩, hb⟩
          have g4 := bel_on k1 hb
          have O4 := Lib.hid (O3.below hb)
          have U4 := Lib.hid hI
          clear hb hI
          have hS2 := HSW.out _ g4
          refine ⟨_, rfl, hS2, ?_⟩
          simp only [List.getElem_toArray, List.getElem_cons_succ, List.getElem_cons_zero, Act.put, List.setIfInBounds_toArray, List.set_cons_zero, List.set_cons_succ]
          refine hd_take 10 (.tuple #[.slice UA n0 uc, .int .i64 0]) rfl rfl (by kernel_rfl) (by kernel_rfl) (by kernel_rfl) (fun _ _ _ h => h) (fun w hw => by go_simp) hS2 ?_
          simp only [List.getElem_toArray, List.getElem_cons_succ, List.getElem_cons_zero, Act.put, List.setIfInBounds_toArray, List.set_cons_zero, List.set_cons_succ]
          refine hd_take 11 (.slice UA n0 uc) rfl rfl (by kernel_rfl) (by kernel_rfl) (by kernel_rfl) (fun _ _ _ h => h) (fun w hw => by go_simp) hS2 ?_
          refine hd_take 12 (.int .i64 0) rfl rfl (by kernel_rfl) (by kernel_rfl) (by kernel_rfl) (fun _ _ _ h => h) (fun w hw => by go_simp) hS2 ?_
          simp only [List.getElem_toArray, List.getElem_cons_succ, List.getElem_cons_zero, Act.put, List.setIfInBounds_toArray, List.set_cons_zero, List.set_cons_succ]
          refine hd_take 13 (.slice UA n0 uc) rfl rfl (by kernel_rfl) (by kernel_rfl) (by kernel_rfl) (fun _ _ _ h => h) (fun w hw => by go_simp) hS2 ?_
          refine hd_take 14 (.int .i64 0) rfl rfl (by kernel_rfl) (by kernel_rfl) (by kernel_rfl) (fun _ _ _ h => h) (fun w hw => by go_simp) hS2 ?_
          refine wpAnyH_done (by kernel_rfl) (NoPanic.normal ?_) _
          simp only [List.getElem_toArray, List.getElem_cons_succ, List.getElem_cons_zero, Act.put, List.setIfInBounds_toArray, List.set_cons_zero, List.set_cons_succ]
          clear hS hS1 hS2 k0 k1 OS O3 HSW
          by_cases hz : n0 = 0
          · have HUS : Hid (usS us0 = [-1]) := by unfold Hid usS; rw [if_pos (List.eq_nil_of_length_eq_zero (by rw [HN0.out]; exact hz))]
            subst hz
            rw [HUS.out] at HSC
            have c4 := HGC.out _ g4
            have HSE : Hid (accF gs mf (i + 1) = accF gs mf i ++ [((gn : Int), -1)]) := HSC.out
            go_wp2_with (at_builtin; rw [show (#[.int .i64 (gn : Int), .int .i64 (-1)] : Array Value) = (cellsE [((gn : Int), -1)]).toArray from rfl]; refine wpList_append_ents _ rfl (.tmp 65) (.tmp 71) rfl v2.heap.size A ln c' _ HL.out rfl (O4.out.below (alloc_bel v4 _)) (some ⟨v4.heap.size, 0, none⟩) 1 1 [((gn : Int), -1)] rfl rfl (src_litE [((gn : Int), -1)] rfl) (by omega) (by have := g4.size; simp; omega) ?_; intro A5 c5 w5 ho5 hb5 hg5; have O5 := Lib.hid ho5; have D5 := Lib.hid ((bel_on g4 (alloc_bel v4 _)).trans hb5); clear ho5 hb5 hg5 c4)
            rw [← HSE.out] at O5
            go_loopw [7, 13] (fun vs vi wr => ∃ (lk ck : Nat) (Ak : Option Addr), vi = .int .i64 0 ∧ vs = .slice Ak lk ck ∧ Hid ((accF gs mf (i + 1)).length = lk) ∧ Hid (OE v2.heap.size wr Ak ck (accF gs mf (i + 1))) ∧ Below v2.heap.size v2 wr) (fun _ _ _ => 0)
            case atStart => exact ⟨ln + 1, c5, A5, rfl, rfl, by unfold Hid; rw [HSE.out, List.length_append, HL.out]; rfl, O5.out, D5.out⟩
            case round =>
              obtain ⟨lk, ck, Ak, rfl, rfl, HLk, HOk, hbk⟩ := hrel
              go_wp2_with fail
              go_roundw
              case rel => exact ⟨i + 1, lk, ck, Ak, by omega, by go_num, rfl, HLk.out, HOk.out, hbk⟩
              case measure => simp [intOf] <;> omega
          · have HUS : Hid (usS us0 = us0) := by unfold Hid usS; rw [if_neg (fun h => hz (by rw [← HN0.out, h]; rfl))]
            have hz2 : ((n0 : Int) == 0) = false := by rw [beq_eq_false_iff_ne]; omega
            have hz3 : (n0 == 0) = false := by rw [beq_eq_false_iff_ne]; exact hz
            rw [HUS.out] at HSC
            obtain ⟨V, hV⟩ : ∃ W, W = v4 := ⟨_, rfl⟩
            rw [← hV] at U4 O4 g4 ⊢
            have HIU := U4
            have hV2 := g4
            have HOV := O4
            have HUX : Hid (∀ x ∈ us0, -1 ≤ x ∧ x ≤ 16) := fun x hx => by have := HUB.out x hx; omega
            have HUL := HN0
            clear hV
            go_wp2_with fail
            obtain ⟨L, hL⟩ : ∃ L : Nat → List Ent, L = fun k => accF gs mf i ++ prs (gn : Int) (us0.take k) := ⟨_, rfl⟩
            have HL0 : Hid (L 0 = accF gs mf i) := by unfold Hid; rw [hL]; simp [prs]
            have HLS : Hid (∀ k, k < n0 → L (k + 1) = L k ++ [((gn : Int), it us0 k)]) := fun k hk => by rw [hL]; dsimp only; rw [prs_take (by rw [HUL.out]; exact hk), List.append_assoc]
            have HLE : Hid (L n0 = accF gs mf (i + 1)) := by unfold Hid; rw [hL, HSC.out]; dsimp only; rw [List.take_of_length_le (by rw [HUL.out]; exact Nat.le_refl _)]
            clear hL
            go_loopw [7, 13] (fun vs vi wr => ∃ (k lk ck : Nat) (Ak : Option Addr), k ≤ n0 ∧ vi = .int .i64 (k : Int) ∧ vs = .slice Ak lk ck ∧ Hid ((L k).length = lk) ∧ lk ≤ 256 + k ∧ Hid (OE v2.heap.size wr Ak ck (L k)) ∧ Hid (OI v3.heap.size wr UA uc us0) ∧ Below v2.heap.size v2 wr) (fun _ vi _ => n0 - (intOf vi).toNat)
            case atStart => exact ⟨0, ln, c', A, by omega, rfl, rfl, by unfold Hid; rw [HL0.out]; exact HL.out, by omega, by unfold Hid; rw [HL0.out]; exact HOV.out, HIU.out, hV2⟩
            case round =>
              obtain ⟨k, lk, ck, Ak, hk_, rfl, rfl, HLk, hlk, HOk, HIk, hbk⟩ := hrel
              by_cases hlk2 : k < n0
              · have hki : (k : Int) < (n0 : Int) := by omega
                have hk0 : (0 : Int) ≤ k := by omega
                have hUl := HUL.out
                obtain ⟨ub, uo, hue, _, huc⟩ := (HIk.out.ir (by omega) (fun x hx => by have := HUX.out x hx; omega)).at_ (i := k) (by omega)
                have HPT := Lib.hid (HLS.out k hlk2)
                have hub := HUX.out (it us0 k) (by rw [it_in (by omega)]; exact List.getElem_mem _)
                obtain ⟨x, hx⟩ : ∃ x, it us0 k = x := ⟨_, rfl⟩
                rw [hx] at huc HPT hub
                have HUE := Lib.hid hue
                have HXE : Hid (it us0 k = x) := hx
                clear hx hue hUl
                obtain rfl := HUE.out
                go_wp2_with fail
                obtain ⟨s0, hs0⟩ : ∃ W, W = wr.drew := ⟨_, rfl⟩
                have k0 : Below v2.heap.size v2 s0 := by rw [hs0]; exact hbk.drew
                have OS : OE v2.heap.size s0 Ak ck (L k) := by rw [hs0]; exact HOk.out
                have IS : OI v3.heap.size s0 (some ⟨ub, uo, none⟩) uc us0 := by rw [hs0]; exact HIk.out
                have HCU : Hid (∀ W, OI v3.heap.size W (some ⟨ub, uo, none⟩) uc us0 → W.cell? ⟨ub, uo + k, none⟩ = some (.int .i64 x)) := fun W hW => by rw [← HXE.out]; exact IR.cell_ (hW.ir (by have := HUL.out; omega) (fun x hx => by have := HUX.out x hx; omega)) (by have := HUL.out; omega)
                refine wp_region_noPanic ?_
                refine wp_region_held_drew (S := fun W => W.cell? ⟨pb, po + i, none⟩ = some (.int .i64 (gn : Int)) ∧ W.cell? ⟨ub, uo + k, none⟩ = some (.int .i64 x)) (by kernel_rfl) (by rw [← hs0]; exact ⟨HGC.out _ k0, HCU.out _ IS⟩) (fun hS => ?_)
                rw [← hs0] at hS ⊢
                clear hs0
                refine hd_take 0 (.slice Ak lk ck) rfl rfl (by kernel_rfl) (by kernel_rfl) (by kernel_rfl) (fun _ _ _ h => h) (fun w hw => by go_simp) hS ?_
                refine hd_take 1 (.slice (some ⟨pb, po, none⟩) ng gc) rfl rfl (by kernel_rfl) (by kernel_rfl) (by kernel_rfl) (fun _ _ _ h => h) (fun w hw => by go_simp) hS ?_
                refine hd_take 2 (.int .i64 (i : Int)) rfl rfl (by kernel_rfl) (by kernel_rfl) (by kernel_rfl) (fun _ _ _ h => h) (fun w hw => by go_simp) hS ?_
                refine hd_take 5 (.slice (some ⟨ub, uo, none⟩) n0 uc) rfl rfl (by kernel_rfl) (by kernel_rfl) (by kernel_rfl) (fun _ _ _ h => h) (fun w hw => by go_simp) hS ?_
                refine hd_take 6 (.int .i64 (k : Int)) rfl rfl (by kernel_rfl) (by kernel_rfl) (by kernel_rfl) (fun _ _ _ h => h) (fun w hw => by go_simp) hS ?_
                simp only [List.getElem_toArray, List.getElem_cons_succ, List.getElem_cons_zero, Act.put, List.setIfInBounds_toArray, List.set_cons_zero, List.set_cons_succ]
                refine hd_take 3 (.pointer (some ⟨pb, po + i, none⟩)) rfl rfl (by kernel_rfl) (by kernel_rfl) (by kernel_rfl) (fun _ _ _ h => h) (fun w hw => by go_simp) hS ?_
                refine hd_take 7 (.pointer (some ⟨ub, uo + k, none⟩)) rfl rfl (by kernel_rfl) (by kernel_rfl) (by kernel_rfl) (fun _ _ _ h => h) (fun w hw => by go_simp) hS ?_
                simp only [List.getElem_toArray, List.getElem_cons_succ, List.getElem_cons_zero, Act.put, List.setIfInBounds_toArray, List.set_cons_zero, List.set_cons_succ]
                refine hd_take 4 (.int .i64 (gn : Int)) rfl rfl (by kernel_rfl) (by kernel_rfl) (by kernel_rfl) (fun _ _ _ h => h) (fun w hw => by have hx := hw.1; simp [go_sem, hx]) hS ?_
                refine hd_take 8 (.int .i64 x) rfl rfl (by kernel_rfl) (by kernel_rfl) (by kernel_rfl) (fun _ _ _ h => h) (fun w hw => by have hx := hw.2; simp [go_sem, hx]) hS ?_
                simp only [List.getElem_toArray, List.getElem_cons_succ, List.getElem_cons_zero, Act.put, List.setIfInBounds_toArray, List.set_cons_zero, List.set_cons_succ]
                refine hd_take 9 (.agg #[.int .i64 (gn : Int), .int .i64 x]) rfl rfl (by kernel_rfl) (by kernel_rfl) (by kernel_rfl) (fun _ _ _ h => h) (fun w hw => by go_simp) hS ?_
                simp only [List.getElem_toArray, List.getElem_cons_succ, List.getElem_cons_zero, Act.put, List.setIfInBounds_toArray, List.set_cons_zero, List.set_cons_succ]
                obtain ⟨s1, hs1⟩ : ∃ W, W = s0.alloc (.cells (cellsE [((gn : Int), x)]).toArray 108) := ⟨_, rfl⟩
                have j1 : Below s0.heap.size s0 s1 := by rw [hs1]; exact alloc_bel _ _
                have SR : Src s1 2 (some ⟨s0.heap.size, 0, none⟩) 1 (cellsE [((gn : Int), x)]) := by rw [hs1]; exact src_litE _ rfl
                refine hd_sole 10 (by kernel_rfl) (op_run (.slice (some ⟨s0.heap.size, 0, none⟩) 1 1) s1 rfl rfl (by rw [hs1]; go_simp <;> rfl) ⟨⟨HGC.out _ (bel_on k0 j1), HCU.out _ (IS.below j1)⟩, ?_⟩)
                simp only [List.getElem_toArray, List.getElem_cons_succ, List.getElem_cons_zero, Act.put, List.setIfInBounds_toArray, List.set_cons_zero, List.set_cons_succ]
                refine hd_appendE 11 (.tmp 79) (.tmp 89) rfl rfl rfl (by kernel_rfl) v2.heap.size Ak lk ck (L k) HLk.out rfl (OS.below j1) (some ⟨s0.heap.size, 0, none⟩) 1 1 [((gn : Int), x)] rfl rfl SR (by omega) (bel_on k0 j1).size ?_
                intro A7 c7 w7 ho7 hb7 hg7
                have O7 := Lib.hid ho7
                have D7 := Lib.hid ((bel_on k0 j1).trans hb7)
                have I7 := Lib.hid (own_kept (IS.below j1) (OS.below j1) (by decide) (by rw [HLk.out]; exact hg7))
                have hS7 : w7.cell? ⟨pb, po + i, none⟩ = some (.int .i64 (gn : Int)) ∧ w7.cell? ⟨ub, uo + k, none⟩ = some (.int .i64 x) := ⟨HGC.out _ D7.out, HCU.out _ I7.out⟩
                refine ⟨hS7, ?_⟩
                simp only [List.getElem_toArray, List.getElem_cons_succ, List.getElem_cons_zero, Act.put, List.setIfInBounds_toArray, List.set_cons_zero, List.set_cons_succ]
                refine hd_take 12 (.slice A7 (lk + 1) c7) rfl rfl (by kernel_rfl) (by kernel_rfl) (by kernel_rfl) (fun _ _ _ h => h) (fun w hw => by go_simp) hS7 ?_
                refine wpAnyH_done (by kernel_rfl) (NoPanic.normal ?_) _
                simp only [List.getElem_toArray, List.getElem_cons_succ, List.getElem_cons_zero, Act.put, List.setIfInBounds_toArray, List.set_cons_zero, List.set_cons_succ]
                clear hS hS7 ho7 hb7 hg7 j1 k0 OS IS SR hs1
                go_wp2_with fail
                go_roundw
                case rel => exact ⟨k + 1, lk + 1, c7, A7, by omega, by go_num, rfl, by unfold Hid; rw [HPT.out, List.length_append, HLk.out]; rfl, by omega, by unfold Hid; rw [HPT.out]; exact O7.out, I7.out, D7.out⟩
                case measure => simp [intOf] <;> omega
              · obtain rfl : k = n0 := by omega
                have hx : ¬ ((k : Int) < (k : Int)) := by omega
                rw [HLE.out] at HLk HOk
                go_wp2_with fail
                go_roundw
                case rel => exact ⟨i + 1, lk, ck, Ak, by omega, by go_num, rfl, HLk.out, HOk.out, hbk⟩
                case measure => simp [intOf] <;> omega
        · obtain rfl : i = ng := by omega
          have hx : ¬ ((i : Int) < i) := by omega
          have HE := Lib.hid (HAC.out i (Nat.le_refl _))
          rw [HE.out] at HL HO
          go_wp2_with fail
          go_ret2
          exact ⟨HF.out _ _ _ HR.out ⟨A, c', by rw [HL.out]; rfl, HO.out.er (by rw [HL.out]; have := accF_len gs mf (fun g _ => HMB.out g) i; rw [HE.out, HL.out] at this; omega)⟩, bel_on b0.out (HD3.out _ hbel)⟩
end Go.Proofs.YtenpkmgbaajeeaaGreat

/- Words and the accused of two levels: the law's walk. -/
namespace Go.Proofs.YtenpkmgbaajeeaaGreat
open Go.RowKit
set_option linter.unusedVariables false
set_option linter.unusedSimpArgs false

set_option maxHeartbeats 8000000 in
set_option maxRecDepth 1000000 in
theorem codeLevels_walk_ (l : LevV) (g m : Int) (Y : Option Addr) (c : Nat) (y : List UInt8) (w : World) (h : LevOK w l) (hg1 : -9223372036854775808 ≤ g) (hg2 : g ≤ 9223372036854775807) (hm1 : -9223372036854775808 ≤ m) (hm2 : m ≤ 9223372036854775807) {n : Nat} (hy : y.length = n) (hY : BR w Y c y) :
    Calls Tryz.prog 5 #[.agg l.cs.toArray, .int .i64 g, .int .i64 m, .slice Y n c] w fun e w' => e = .returned (.bool true) ∧ Below w.heap.size w w' := by
  have hk := h.k16
  have mixed : Tryz.prog.follows Departure.mixedOrders = true := by kernel_rfl
  obtain ⟨W0, hW0⟩ : ∃ W : World, W = w.alloc (.cells l.cs.toArray 60) := ⟨_, rfl⟩
  have b0 : Hid (Below w.heap.size w W0) := by unfold Hid; rw [hW0]; exact alloc_below _ _
  have x0 : Hid (Blk W0 w.heap.size 60 l.cs.toArray) := by unfold Hid; rw [hW0]; exact Blk.new w _ _
  have HW0 := Lib.hid hW0
  have HIN := Lib.hid (infoV (LevV.len hk))
  have HL21 : Hid (l.cs.length = 21) := LevV.len hk
  have HYL := Lib.hid hy
  have HYW : Hid (∀ W, Below w.heap.size w W → BR W Y c y) := fun W hW => hY.below hW
  have HF1 : Hid (∀ W, Below w.heap.size w W → Calls Tryz.prog 35 #[.agg l.cs.toArray, .int .i64 g, .int .i64 m] W fun e w' => WordErr (l.wordR g m) e w' ∧ Below W.heap.size W w') := fun W hW => LevelWord_any l g m W (h.below hW) hg1 hg2 hm1 hm2
  have HF2 : Hid (∀ W, Below w.heap.size w W → Calls Tryz.prog 36 #[.agg l.cs.toArray, .int .i64 g, .int .i64 m] W fun e w' => WordErr (l.wordR g m) e w' ∧ Below W.heap.size W w') := fun W hW => refLevelWord_any l g m W (h.below hW) hg1 hg2 hm1 hm2
  have HK1 : Hid (∀ W, Below w.heap.size w W → Calls Tryz.prog 37 #[.agg l.cs.toArray] W fun e w' => e = .returned (.int .i64 (ckSt l.ok)) ∧ Below W.heap.size W w') := fun W hW => CheckLevels_any l W (h.below hW)
  have HK2 : Hid (∀ W, Below w.heap.size w W → Calls Tryz.prog 38 #[.agg l.cs.toArray] W fun e w' => e = .returned (.int .i64 (ckSt l.ok)) ∧ Below W.heap.size W w') := fun W hW => refCheckLevels_any l W (h.below hW)
  have HT1 : Hid (∀ W, Below w.heap.size w W → Calls Tryz.prog 39 #[.agg l.cs.toArray, .slice Y n c] W fun e w' => PairsErr (l.accR y) e w' ∧ Below W.heap.size W w') := fun W hW => TraceLevels_any l Y c y W (h.below hW) hy (hY.below hW)
  have HT2 : Hid (∀ W, Below w.heap.size w W → Calls Tryz.prog 40 #[.agg l.cs.toArray, .slice Y n c] W fun e w' => PairsErr (l.accR y) e w' ∧ Below W.heap.size W w') := fun W hW => refTraceLevels_any l Y c y W (h.below hW) hy (hY.below hW)
  have HSI : Hid (∀ l A a B b W {k : Nat}, l.length = k → ER W A a l → ER W B b l → Calls Tryz.prog 41 #[.slice A k a, .slice B k b] W fun e w' => e = .returned (.bool true) ∧ Below W.heap.size W w') := fun l A a B b W k hk h1 h2 => SameAccused_any l A a B b W hk h1 h2
  have HX : Hid (∀ W, Below W0.heap.size W0 W → Blk W w.heap.size 60 l.cs.toArray) := fun W hW => x0.out.below' hW
  have HXR : Hid (∀ W, Below W0.heap.size W0 W → W.rangeAt w.heap.size 0 l.cs) := fun W hW => (x0.out.below' hW).range
  obtain ⟨lw, ew, hlw⟩ : ∃ a e, l.wordR g m = (a, e) := ⟨_, _, rfl⟩
  obtain ⟨lt, et, hlt⟩ : ∃ a e, l.accR y = (a, e) := ⟨_, _, rfl⟩
  rw [hlw] at HF1 HF2
  rw [hlt] at HT1 HT2
  obtain ⟨nw, HLW⟩ : ∃ k, Hid (lw.length = k) := ⟨_, rfl⟩
  obtain ⟨nt, HLT⟩ : ∃ k, Hid (lt.length = k) := ⟨_, rfl⟩
  have HWE : Hid (∀ e w', WordErr (lw, ew) e w' → ∃ A c, e = .returned (.tuple #[.slice A nw c, .int .i64 ew]) ∧ BR w' A c lw) := fun e w' ⟨A, c, he, hb⟩ => ⟨A, c, by rw [he, ← HLW.out], hb⟩
  have HTE : Hid (∀ e w', PairsErr (lt, et) e w' → ∃ A c, e = .returned (.tuple #[.slice A nt c, .int .i64 et]) ∧ ER w' A c lt) := fun e w' ⟨A, c, he, hb⟩ => ⟨A, c, by rw [he, ← HLT.out], hb⟩
  generalize WordErr (lw, ew) = WE at *
  generalize PairsErr (lt, et) = TE at *
  generalize ckSt l.ok = ck at *
  generalize l.cs = cs at *
  clear h hk hW0 hlw hlt hy hY
  go_enter Tryz.func5, Tryz.ntmps5
  go_wp2_with (first
    | (rw [← HW0.out])
    | (refine wpList_load_row rfl 60 (.tmp 4) rfl (w.heap.size) rfl 60 cs.toArray (0, 0) _ x0.out Tryz.underlying60 rfl HIN.out ?_)
    | (refine wpList_load_row rfl 60 (.tmp 4) rfl (w.heap.size) rfl 60 cs.toArray (0, 0) _ X4.out Tryz.underlying60 rfl HIN.out ?_)
    | (go_at_call 35; (with_reducible refine (HF1.out _ b0.out).mono ?_); rintro e w4 ⟨hE, hb⟩; obtain ⟨A1, c1, rfl, hB1⟩ := HWE.out _ _ hE; have D4 := Lib.hid hb; have B4 := Lib.hid hB1; have X4 := Lib.hid (HX.out _ D4.out); clear hE hb hB1)
    | (go_at_call 36; (with_reducible refine (HF2.out _ (bel_on b0.out D4.out)).mono ?_); rintro e w5 ⟨hE, hb⟩; obtain ⟨A2, c2, rfl, hB2⟩ := HWE.out _ _ hE; have D5 := Lib.hid (bel_on D4.out hb); have B5 := Lib.hid (B4.out.below hb); have C5 := Lib.hid hB2; clear hE hb hB2))
  have HS4 : Hid (∀ W, Below w5.heap.size w5 W → BR W A1 c1 lw ∧ BR W A2 c2 lw ∧ W.rangeAt w.heap.size 0 cs) := fun W hW => ⟨B5.out.below hW, C5.out.below hW, HXR.out _ (bel_on D5.out hW)⟩
  have HB4 : Hid (∀ W, Below w5.heap.size w5 W → Below w.heap.size w W) := fun W hW => bel_on b0.out (bel_on D5.out hW)
  have HS : Hid (∀ W, Below w5.heap.size w5 W → BR W A1 c1 lw ∧ BR W A2 c2 lw ∧ W.rangeAt w.heap.size 0 cs) := fun W hW => HS4.out W hW
  have E0 : Below w5.heap.size w5 w5 := Below.refl _ _
  refine wp_region_noPanic ?_
  refine wp_region_held_drew (S := fun W => BR W A1 c1 lw ∧ BR W A2 c2 lw ∧ W.rangeAt w.heap.size 0 cs) (by kernel_rfl) (HS.out _ E0.drew) (fun hS => ?_)
  have E0 := E0.drew
  refine hd_take 0 (.slice A1 nw c1) rfl rfl (by kernel_rfl) (by kernel_rfl) (by kernel_rfl) (fun _ _ _ h => h) (fun w hw => by go_simp) hS ?_
  simp only [List.getElem_toArray, List.getElem_cons_succ, List.getElem_cons_zero, Act.put, List.setIfInBounds_toArray, List.set_cons_zero, List.set_cons_succ]
  refine hd_take 2 (.slice A2 nw c2) rfl rfl (by kernel_rfl) (by kernel_rfl) (by kernel_rfl) (fun _ _ _ h => h) (fun w hw => by go_simp) hS ?_
  simp only [List.getElem_toArray, List.getElem_cons_succ, List.getElem_cons_zero, Act.put, List.setIfInBounds_toArray, List.set_cons_zero, List.set_cons_succ]
  refine hd_take 1 (.string (strB lw)) rfl rfl (by kernel_rfl) (by kernel_rfl) (by kernel_rfl) (fun _ _ _ h => h) (fun w hw => by have hx := run_string_br hw.1 _ HLW.out; simp [execOp, Act.eval, Act.put, Sem.run_bind, hx]) hS ?_
  simp only [List.getElem_toArray, List.getElem_cons_succ, List.getElem_cons_zero, Act.put, List.setIfInBounds_toArray, List.set_cons_zero, List.set_cons_succ]
  refine hd_take 3 (.string (strB lw)) rfl rfl (by kernel_rfl) (by kernel_rfl) (by kernel_rfl) (fun _ _ _ h => h) (fun w hw => by have hx := run_string_br hw.2.1 _ HLW.out; simp [execOp, Act.eval, Act.put, Sem.run_bind, hx]) hS ?_
  simp only [List.getElem_toArray, List.getElem_cons_succ, List.getElem_cons_zero, Act.put, List.setIfInBounds_toArray, List.set_cons_zero, List.set_cons_succ]
  refine hd_take 4 (.bool false) rfl rfl (by kernel_rfl) (by kernel_rfl) (by kernel_rfl) (fun _ _ _ h => h) (fun w hw => by simp [go_sem]) hS ?_
  simp only [List.getElem_toArray, List.getElem_cons_succ, List.getElem_cons_zero, Act.put, List.setIfInBounds_toArray, List.set_cons_zero, List.set_cons_succ]
  refine hd_take 5 (.bool false) rfl rfl (by kernel_rfl) (by kernel_rfl) (by kernel_rfl) (fun _ _ _ h => h) (fun w hw => by go_simp) hS ?_
  simp only [List.getElem_toArray, List.getElem_cons_succ, List.getElem_cons_zero, Act.put, List.setIfInBounds_toArray, List.set_cons_zero, List.set_cons_succ]
  refine hg_take 6 (.int .i64 ew) rfl (by rfl) (by kernel_rfl) (by kernel_rfl) (by kernel_rfl) (fun _ _ _ h => h) (fun w hw => by go_simp) hS ?_
  simp only [List.getElem_toArray, List.getElem_cons_succ, List.getElem_cons_zero, Act.put, List.setIfInBounds_toArray, List.set_cons_zero, List.set_cons_succ]
  refine hg_take 7 (.int .i64 ew) rfl (by rfl) (by kernel_rfl) (by kernel_rfl) (by kernel_rfl) (fun _ _ _ h => h) (fun w hw => by go_simp) hS ?_
  simp only [List.getElem_toArray, List.getElem_cons_succ, List.getElem_cons_zero, Act.put, List.setIfInBounds_toArray, List.set_cons_zero, List.set_cons_succ]
  refine hg_take 8 (.bool false) rfl (by rfl) (by kernel_rfl) (by kernel_rfl) (by kernel_rfl) (fun _ _ _ h => h) (fun w hw => by simp [go_sem]) hS ?_
  simp only [List.getElem_toArray, List.getElem_cons_succ, List.getElem_cons_zero, Act.put, List.setIfInBounds_toArray, List.set_cons_zero, List.set_cons_succ]
  refine hd_take 9 (.bool false) rfl rfl (by kernel_rfl) (by kernel_rfl) (by kernel_rfl) (fun _ _ _ h => h) (fun w hw => by go_simp) hS ?_
  simp only [List.getElem_toArray, List.getElem_cons_succ, List.getElem_cons_zero, Act.put, List.setIfInBounds_toArray, List.set_cons_zero, List.set_cons_succ]
  refine hd_take 10 (.bool false) rfl rfl (by kernel_rfl) (by kernel_rfl) (by kernel_rfl) (fun _ _ _ h => h) (fun w hw => by go_simp) hS ?_
  simp only [List.getElem_toArray, List.getElem_cons_succ, List.getElem_cons_zero, Act.put, List.setIfInBounds_toArray, List.set_cons_zero, List.set_cons_succ]
  refine hg_load 11 (w.heap.size) (0) (cs) _ _ rfl rfl (by rfl) (by kernel_rfl) (by kernel_rfl) (by kernel_rfl) (fun _ _ _ h => h) rfl (fun w hw => hw.2.2) Tryz.underlying60 rfl (infoV' HL21.out) hS ?_
  simp only [List.getElem_toArray, List.getElem_cons_succ, List.getElem_cons_zero, Act.put, List.setIfInBounds_toArray, List.set_cons_zero, List.set_cons_succ]
  refine hg_load 13 (w.heap.size) (0) (cs) _ _ rfl rfl (by rfl) (by kernel_rfl) (by kernel_rfl) (by kernel_rfl) (fun _ _ _ h => h) rfl (fun w hw => hw.2.2) Tryz.underlying60 rfl (infoV' HL21.out) hS ?_
  simp only [List.getElem_toArray, List.getElem_cons_succ, List.getElem_cons_zero, Act.put, List.setIfInBounds_toArray, List.set_cons_zero, List.set_cons_succ]
  refine hg_calls 12 37 #[.agg cs.toArray] rfl (by rfl) (by kernel_rfl) (by go_simp <;> rfl) ?_
  refine (HK1.out _ (HB4.out _ E0)).mono ?_
  rintro e u1 ⟨rfl, hb⟩
  have E1_ := bel_on E0 hb
  have hS1_ := HS.out _ E1_
  clear hb
  refine ⟨_, rfl, hS1_, ?_⟩
  simp only [List.getElem_toArray, List.getElem_cons_succ, List.getElem_cons_zero, Act.put, List.setIfInBounds_toArray, List.set_cons_zero, List.set_cons_succ]
  refine hg_calls 14 38 #[.agg cs.toArray] rfl (by rfl) (by kernel_rfl) (by go_simp <;> rfl) ?_
  refine (HK2.out _ (HB4.out _ E1_)).mono ?_
  rintro e u2 ⟨rfl, hb⟩
  have E2_ := bel_on E1_ hb
  have hS2_ := HS.out _ E2_
  clear hb
  refine ⟨_, rfl, hS2_, ?_⟩
  simp only [List.getElem_toArray, List.getElem_cons_succ, List.getElem_cons_zero, Act.put, List.setIfInBounds_toArray, List.set_cons_zero, List.set_cons_succ]
  refine hg_take 15 (.bool false) rfl (by rfl) (by kernel_rfl) (by kernel_rfl) (by kernel_rfl) (fun _ _ _ h => h) (fun w hw => by simp [go_sem]) hS2_ ?_
  simp only [List.getElem_toArray, List.getElem_cons_succ, List.getElem_cons_zero, Act.put, List.setIfInBounds_toArray, List.set_cons_zero, List.set_cons_succ]
  refine hd_take 16 (.bool false) rfl rfl (by kernel_rfl) (by kernel_rfl) (by kernel_rfl) (fun _ _ _ h => h) (fun w hw => by go_simp) hS2_ ?_
  simp only [List.getElem_toArray, List.getElem_cons_succ, List.getElem_cons_zero, Act.put, List.setIfInBounds_toArray, List.set_cons_zero, List.set_cons_succ]
  refine wpAnyH_done (by kernel_rfl) (NoPanic.normal ?_) _
  have D6 := Lib.hid (HB4.out _ E2_)
  have X6 := Lib.hid (HX.out _ (bel_on D5.out E2_))
  clear HS4 HB4 HXR E0 E1_ E2_ hS hS1_ hS2_
  go_wp2_with (first
    | (refine wpList_load_row rfl 60 (.tmp 4) rfl (w.heap.size) rfl 60 cs.toArray (0, 0) _ X6.out Tryz.underlying60 rfl HIN.out ?_)
    | (refine wpList_load_row rfl 60 (.tmp 4) rfl (w.heap.size) rfl 60 cs.toArray (0, 0) _ X7.out Tryz.underlying60 rfl HIN.out ?_)
    | (go_at_call 39; (with_reducible refine (HT1.out _ D6.out).mono ?_); rintro e w7 ⟨hE, hb⟩; obtain ⟨A7, c7, rfl, hB⟩ := HTE.out _ _ hE; have D7 := Lib.hid (bel_on D6.out hb); have B7 := Lib.hid hB; have X7 := Lib.hid (X6.out.below' hb); clear hE hb hB)
    | (go_at_call 40; (with_reducible refine (HT2.out _ D7.out).mono ?_); rintro e w8 ⟨hE, hb⟩; obtain ⟨A8, c8, rfl, hB⟩ := HTE.out _ _ hE; have D8 := Lib.hid (bel_on D7.out hb); have C8 := Lib.hid hB; have B8 := Lib.hid (B7.out.below hb); clear hE hb hB)
    | (go_at_call 41; (with_reducible refine (HSI.out _ _ _ _ _ _ HLT.out B8.out C8.out).mono ?_); rintro e w9 ⟨rfl, hb⟩; have D9 := Lib.hid (bel_on D8.out hb); clear hb))
  go_ret
  exact ⟨rfl, D9.out⟩
theorem codeLevels_walk (l : LevV) (g m : Int) (Y : Option Addr) (c : Nat) (y : List UInt8) {w : World} (h : LevOK w l) (hg1 : -9223372036854775808 ≤ g) (hg2 : g ≤ 9223372036854775807) (hm1 : -9223372036854775808 ≤ m) (hm2 : m ≤ 9223372036854775807) (hY : BR w Y c y) :
    Calls Tryz.prog 5 #[.agg l.cs.toArray, .int .i64 g, .int .i64 m, .slice Y y.length c] w fun e w' => e = .returned (.bool true) ∧ Below w.heap.size w w' := codeLevels_walk_ l g m Y c y w h hg1 hg2 hm1 hm2 rfl hY
end Go.Proofs.YtenpkmgbaajeeaaGreat
