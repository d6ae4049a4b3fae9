/-
  Lemmas and contracts, joined.
-/
import Derived.Test.YtchnaimpmegbkaaGreatDoorTfTr2
import Derived.Test.YtchnaimpmegbkaaGreatDoorTfTh1
set_option linter.unusedSimpArgs false
set_option linter.unusedVariables false
set_option linter.unnecessarySimpa false
/- The tests of a case. -/
namespace Go.Proofs.YtchnaimpmegbkaaGreatDoor
open Go.RowKit
set_option linter.unusedVariables false
set_option linter.unusedSimpArgs false

set_option maxHeartbeats 4000000 in
set_option maxRecDepth 100000 in
theorem test1_any (v : CV) (A : Option Addr) (m c : Nat) (Y : Option Addr) (n y : Nat) (H : Option Addr) (k h : Nat) (w : World) (g : CaseOK w v A m c Y n y H k h) (hf : fitsB v.a v.b m = true) :
    Calls Tryz.prog 154 #[.agg (caseC v A m c Y n y H k h).toArray] w fun e w' => e = .returned (.bool (givesB v)) ∧ Below w.heap.size w w' := by
  have b0 := alloc_bel w (.cells (caseC v A m c Y n y H k h).toArray 43)
  have B0 := box_of (Blk.new w 43 (caseC v A m c Y n y H k h).toArray) g.r16 g.c16 g.n16
  have HR := Lib.hid g.r16
  have HC := Lib.hid g.c16
  obtain ⟨⟨g1, g2, g3, g4⟩, g5⟩ := fitsB_iff.1 hf
  have HG : Hid (∀ W, Below w.heap.size w W → Calls Tryz.prog 155 #[.agg (cellsB v.root).toArray, .agg (cellsB v.com).toArray, .agg #[.int .i64 v.a, .int .i64 v.b, .slice A m c]] W fun e w' => e = .returned (.bool (givesB v)) ∧ Below W.heap.size W w') := fun W hW => by
    have := gives_any v.root v.com v.a.toNat v.b.toNat v.P A c W g.hm g.r16 g.c16 (by omega) (by omega) (by omega) (by rw [g.hm]; exact g5) (g.P.below hW)
    rwa [Int.toNat_of_nonneg (by omega), Int.toNat_of_nonneg (by omega)] at this
  have HB := Lib.hid B0
  generalize caseC v A m c Y n y H k h = cs at HB b0 ⊢
  obtain ⟨W0, hW0⟩ : ∃ W, W = w.alloc (.cells cs.toArray 43) := ⟨_, rfl⟩
  rw [← hW0] at HB b0
  have HW0 := Lib.hid hW0
  generalize givesB v = q at HG ⊢
  obtain ⟨root, com, a, b, P, cp, need, op, half, nonce⟩ := v
  dsimp only at HR HC HG
  have R0 := Lib.hid HB.out.root
  have R1 := Lib.hid HB.out.com
  have R2 := Lib.hid HB.out.pr
  dsimp only at R0 R1 R2
  clear g hf g1 g2 g3 g4 g5 hW0 B0 HB
  go_enter Tryz.func154, Tryz.ntmps154
  go_wp2_with (first
    | ((first | rw [← HW0.out] | skip); refine wpList_load_mid rfl 23 (.tmp 3) rfl w.heap.size 0 rfl (cellsB root) _ R0.out under_key rfl (key_info HR.out) ?_)
    | (refine wpList_load_mid rfl 23 (.tmp 5) rfl w.heap.size 16 rfl (cellsB com) _ R1.out under_key rfl (key_info HC.out) ?_)
    | (refine wpList_load_mid rfl 41 (.tmp 7) rfl w.heap.size 32 rfl [.int .i64 a, .int .i64 b, .slice A m c] _ R2.out Tryz.underlying41 rfl (by kernel_rfl) ?_)
    | (go_at_call 155; (with_reducible refine (HG.out _ b0).mono ?_); rintro e w1 ⟨rfl, hb1⟩; have D1 := bel_on b0 hb1; clear hb1))
  go_ret
  exact ⟨rfl, D1⟩

set_option maxHeartbeats 8000000 in
set_option maxRecDepth 100000 in
theorem test2_any (v : CV) (A : Option Addr) (m c : Nat) (Y : Option Addr) (n y : Nat) (H : Option Addr) (k h : Nat) (w : World) (g : CaseOK w v A m c Y n y H k h) :
    Calls Tryz.prog 156 #[.agg (caseC v A m c Y n y H k h).toArray] w fun e w' => e = .returned (.bool (opensB v)) ∧ Below w.heap.size w w' := by
  have b0 := alloc_bel w (.cells (caseC v A m c Y n y H k h).toArray 43)
  have B0 := Blk.new w 43 (caseC v A m c Y n y H k h).toArray
  have HBX : Hid (∀ W, Below (w.alloc (.cells (caseC v A m c Y n y H k h).toArray 43)).heap.size (w.alloc (.cells (caseC v A m c Y n y H k h).toArray 43)) W → Box W w.heap.size v A m c Y n y H k h) := fun W hW => box_of (B0.below' hW) g.r16 g.c16 g.n16
  have D0 : Below (w.alloc (.cells (caseC v A m c Y n y H k h).toArray 43)).heap.size (w.alloc (.cells (caseC v A m c Y n y H k h).toArray 43)) (w.alloc (.cells (caseC v A m c Y n y H k h).toArray 43)) := Below.refl _ _
  have hkl := g.half.len
  have hnl := g.cp.len
  have HC := Lib.hid g.c16
  have HNN := Lib.hid g.n16
  have HSY : Hid (∀ W, Below w.heap.size w W → Calls Tryz.prog 30 #[.slice H k h, .int .u8 1] W fun e w' => e = .returned (.bool (halfB v.half 1)) ∧ W = w') := fun W hW => auditSyms_any H h v.half 1 W g.hk (g.half.below hW) (by omega)
  have HCO : Hid (halfB v.half 1 = true → ∀ W, Below w.heap.size w W → Calls Tryz.prog 63 #[.slice H k h, .agg (cellsB v.nonce).toArray] W fun e w' => e = .returned (.agg (cellsB (digS (openT v.half v.nonce))).toArray) ∧ Below W.heap.size W w') := fun hh W hW => commit_any v.half v.nonce H h W g.hk (by have := (halfB_iff.1 hh).1.2; rw [g.hk] at this; omega) g.n16 (g.half.below hW)
  have HDL := Lib.hid (digS_length (openT v.half v.nonce))
  have HOP : Hid (opensB v = (v.op && (decide (k = n) && (halfB v.half 1 && (digS (openT v.half v.nonce) == v.com))))) := by unfold Hid opensB; rw [g.hk, g.hn]
  generalize digS (openT v.half v.nonce) = d at HCO HDL HOP
  generalize halfB v.half 1 = s at HSY HCO HOP
  generalize opensB v = q at HOP ⊢
  have hki : (k : Int) ≤ 140737488351232 := by rw [g.hk] at hkl; omega
  have hni : (n : Int) ≤ 140737488351232 := by rw [g.hn] at hnl; omega
  generalize caseC v A m c Y n y H k h = cs at HBX b0 D0 ⊢
  obtain ⟨W0, hW0⟩ : ∃ W, W = w.alloc (.cells cs.toArray 43) := ⟨_, rfl⟩
  rw [← hW0] at HBX b0 D0
  have HW0 := Lib.hid hW0
  obtain ⟨root, com, a, b, P, cp, need, op, half, nonce⟩ := v
  dsimp only at HC HNN HSY HCO HOP
  have HS : Hid (∀ W, Below W0.heap.size W0 W → W.cell? ⟨w.heap.size, 37, none⟩ = some (.bool op) ∧ W.cell? ⟨w.heap.size, 38, none⟩ = some (.slice H k h) ∧ W.cell? ⟨w.heap.size, 35, none⟩ = some (.slice Y n y) ∧ W.rangeAt w.heap.size 39 (cellsB nonce) ∧ W.rangeAt w.heap.size 16 (cellsB com)) := fun W hW => by
    have := HBX.out W hW
    exact ⟨this.c37, this.c38, this.c35, this.nonce, this.com⟩
  clear g hkl hnl hW0 B0 HBX
  go_enter Tryz.func156, Tryz.ntmps156
  go_wp2_with fail
  rw [← HW0.out]
  refine wp_region_noPanic ?_
  refine wp_region_held_drew (S := fun w' => w'.cell? ⟨w.heap.size, 37, none⟩ = some (.bool op) ∧ w'.cell? ⟨w.heap.size, 38, none⟩ = some (.slice H k h) ∧ w'.cell? ⟨w.heap.size, 35, none⟩ = some (.slice Y n y) ∧ w'.rangeAt w.heap.size 39 (cellsB nonce) ∧ w'.rangeAt w.heap.size 16 (cellsB com)) (by kernel_rfl) (HS.out _ D0.drew) (fun hS => ?_)
  refine hd_take 0 (_) rfl rfl (by kernel_rfl) (by kernel_rfl) (by kernel_rfl) (fun _ _ _ h => h) (fun w hw => by go_simp <;> rfl) hS ?_
  simp only [List.getElem_toArray, List.getElem_cons_succ, List.getElem_cons_zero, Act.put, List.setIfInBounds_toArray, List.set_cons_zero, List.set_cons_succ]
  refine hd_take 1 (.bool op) rfl rfl (by kernel_rfl) (by kernel_rfl) (by kernel_rfl) (fun _ _ _ h => h) (fun w hw => by have hx := hw.1; simp [go_sem, hx]) hS ?_
  simp only [List.getElem_toArray, List.getElem_cons_succ, List.getElem_cons_zero, Act.put, List.setIfInBounds_toArray, List.set_cons_zero, List.set_cons_succ]
  refine hd_take 2 (_) rfl rfl (by kernel_rfl) (by kernel_rfl) (by kernel_rfl) (fun _ _ _ h => h) (fun w hw => by go_simp <;> rfl) hS ?_
  simp only [List.getElem_toArray, List.getElem_cons_succ, List.getElem_cons_zero, Act.put, List.setIfInBounds_toArray, List.set_cons_zero, List.set_cons_succ]
  cases op with
  | false =>
    refine hg_skip 3 rfl rfl (by kernel_rfl) (by kernel_rfl) (by kernel_rfl) (fun _ _ _ h => h) hS ?_
    refine hg_skip 4 rfl rfl (by kernel_rfl) (by kernel_rfl) (by kernel_rfl) (fun _ _ _ h => h) hS ?_
    refine hg_skip 5 rfl rfl (by kernel_rfl) (by kernel_rfl) (by kernel_rfl) (fun _ _ _ h => h) hS ?_
    refine hg_skip 6 rfl rfl (by kernel_rfl) (by kernel_rfl) (by kernel_rfl) (fun _ _ _ h => h) hS ?_
    refine hg_skip 7 rfl rfl (by kernel_rfl) (by kernel_rfl) (by kernel_rfl) (fun _ _ _ h => h) hS ?_
    refine hg_skip 8 rfl rfl (by kernel_rfl) (by kernel_rfl) (by kernel_rfl) (fun _ _ _ h => h) hS ?_
    refine hg_skip 9 rfl rfl (by kernel_rfl) (by kernel_rfl) (by kernel_rfl) (fun _ _ _ h => h) hS ?_
    simp only [List.getElem_toArray, List.getElem_cons_succ, List.getElem_cons_zero, Act.put, List.setIfInBounds_toArray, List.set_cons_zero, List.set_cons_succ]
    refine hd_take 10 (_) rfl rfl (by kernel_rfl) (by kernel_rfl) (by kernel_rfl) (fun _ _ _ h => h) (fun w hw => by go_simp <;> rfl) hS ?_
    simp only [List.getElem_toArray, List.getElem_cons_succ, List.getElem_cons_zero, Act.put, List.setIfInBounds_toArray, List.set_cons_zero, List.set_cons_succ]
    refine hd_take 11 (_) rfl rfl (by kernel_rfl) (by kernel_rfl) (by kernel_rfl) (fun _ _ _ h => h) (fun w hw => by go_simp <;> rfl) hS ?_
    simp only [List.getElem_toArray, List.getElem_cons_succ, List.getElem_cons_zero, Act.put, List.setIfInBounds_toArray, List.set_cons_zero, List.set_cons_succ]
    refine hg_skip 12 rfl rfl (by kernel_rfl) (by kernel_rfl) (by kernel_rfl) (fun _ _ _ h => h) hS ?_
    refine hg_skip 13 rfl rfl (by kernel_rfl) (by kernel_rfl) (by kernel_rfl) (fun _ _ _ h => h) hS ?_
    refine hg_skip 14 rfl rfl (by kernel_rfl) (by kernel_rfl) (by kernel_rfl) (fun _ _ _ h => h) hS ?_
    simp only [List.getElem_toArray, List.getElem_cons_succ, List.getElem_cons_zero, Act.put, List.setIfInBounds_toArray, List.set_cons_zero, List.set_cons_succ]
    refine hd_take 15 (_) rfl rfl (by kernel_rfl) (by kernel_rfl) (by kernel_rfl) (fun _ _ _ h => h) (fun w hw => by go_simp <;> rfl) hS ?_
    simp only [List.getElem_toArray, List.getElem_cons_succ, List.getElem_cons_zero, Act.put, List.setIfInBounds_toArray, List.set_cons_zero, List.set_cons_succ]
    refine hd_take 16 (_) rfl rfl (by kernel_rfl) (by kernel_rfl) (by kernel_rfl) (fun _ _ _ h => h) (fun w hw => by go_simp <;> rfl) hS ?_
    simp only [List.getElem_toArray, List.getElem_cons_succ, List.getElem_cons_zero, Act.put, List.setIfInBounds_toArray, List.set_cons_zero, List.set_cons_succ]
    refine hg_skip 17 rfl rfl (by kernel_rfl) (by kernel_rfl) (by kernel_rfl) (fun _ _ _ h => h) hS ?_
    refine hg_skip 18 rfl rfl (by kernel_rfl) (by kernel_rfl) (by kernel_rfl) (fun _ _ _ h => h) hS ?_
    refine hg_skip 19 rfl rfl (by kernel_rfl) (by kernel_rfl) (by kernel_rfl) (fun _ _ _ h => h) hS ?_
    refine hg_skip 20 rfl rfl (by kernel_rfl) (by kernel_rfl) (by kernel_rfl) (fun _ _ _ h => h) hS ?_
    refine hg_skip 21 rfl rfl (by kernel_rfl) (by kernel_rfl) (by kernel_rfl) (fun _ _ _ h => h) hS ?_
    refine hg_skip 22 rfl rfl (by kernel_rfl) (by kernel_rfl) (by kernel_rfl) (fun _ _ _ h => h) hS ?_
    refine hg_skip 23 rfl rfl (by kernel_rfl) (by kernel_rfl) (by kernel_rfl) (fun _ _ _ h => h) hS ?_
    refine hg_skip 24 rfl rfl (by kernel_rfl) (by kernel_rfl) (by kernel_rfl) (fun _ _ _ h => h) hS ?_
    simp only [List.getElem_toArray, List.getElem_cons_succ, List.getElem_cons_zero, Act.put, List.setIfInBounds_toArray, List.set_cons_zero, List.set_cons_succ]
    refine hd_take 25 (_) rfl rfl (by kernel_rfl) (by kernel_rfl) (by kernel_rfl) (fun _ _ _ h => h) (fun w hw => by go_simp <;> rfl) hS ?_
    simp only [List.getElem_toArray, List.getElem_cons_succ, List.getElem_cons_zero, Act.put, List.setIfInBounds_toArray, List.set_cons_zero, List.set_cons_succ]
    refine hd_take 26 (_) rfl rfl (by kernel_rfl) (by kernel_rfl) (by kernel_rfl) (fun _ _ _ h => h) (fun w hw => by go_simp <;> rfl) hS ?_
    simp only [List.getElem_toArray, List.getElem_cons_succ, List.getElem_cons_zero, Act.put, List.setIfInBounds_toArray, List.set_cons_zero, List.set_cons_succ]
    refine wpAnyH_done (by kernel_rfl) (NoPanic.normal ?_) _
    clear hS
    go_wp2_with fail
    go_ret
    exact ⟨by rw [HOP.out]; simp, bel_on b0 D0.drew⟩
  | true =>
    refine hg_take 3 (_) rfl rfl (by kernel_rfl) (by kernel_rfl) (by kernel_rfl) (fun _ _ _ h => h) (fun w hw => by go_simp <;> rfl) hS ?_
    refine hg_take 6 (_) rfl rfl (by kernel_rfl) (by kernel_rfl) (by kernel_rfl) (fun _ _ _ h => h) (fun w hw => by go_simp <;> rfl) hS ?_
    simp only [List.getElem_toArray, List.getElem_cons_succ, List.getElem_cons_zero, Act.put, List.setIfInBounds_toArray, List.set_cons_zero, List.set_cons_succ]
    refine hg_take 4 (.slice H k h) rfl rfl (by kernel_rfl) (by kernel_rfl) (by kernel_rfl) (fun _ _ _ h => h) (fun w hw => by have hx := hw.2.1; simp [go_sem, hx]) hS ?_
    refine hg_take 7 (.slice Y n y) rfl rfl (by kernel_rfl) (by kernel_rfl) (by kernel_rfl) (fun _ _ _ h => h) (fun w hw => by have hx := hw.2.2.1; simp [go_sem, hx]) hS ?_
    simp only [List.getElem_toArray, List.getElem_cons_succ, List.getElem_cons_zero, Act.put, List.setIfInBounds_toArray, List.set_cons_zero, List.set_cons_succ]
    refine hg_take 5 (_) rfl rfl (by kernel_rfl) (by kernel_rfl) (by kernel_rfl) (fun _ _ _ h => h) (fun w hw => by go_simp <;> rfl) hS ?_
    refine hg_take 8 (_) rfl rfl (by kernel_rfl) (by kernel_rfl) (by kernel_rfl) (fun _ _ _ h => h) (fun w hw => by go_simp <;> rfl) hS ?_
    simp only [List.getElem_toArray, List.getElem_cons_succ, List.getElem_cons_zero, Act.put, List.setIfInBounds_toArray, List.set_cons_zero, List.set_cons_succ]
    by_cases hkn : k = n
    · have e1 : ((k : Int) == (n : Int)) = true := by simp; omega
      refine hg_take 9 (.bool true) rfl rfl (by kernel_rfl) (by kernel_rfl) (by kernel_rfl) (fun _ _ _ h => h) (fun w hw => by simp [go_sem, e1]) hS ?_
      simp only [List.getElem_toArray, List.getElem_cons_succ, List.getElem_cons_zero, Act.put, List.setIfInBounds_toArray, List.set_cons_zero, List.set_cons_succ]
      refine hd_take 10 (_) rfl rfl (by kernel_rfl) (by kernel_rfl) (by kernel_rfl) (fun _ _ _ h => h) (fun w hw => by go_simp <;> rfl) hS ?_
      simp only [List.getElem_toArray, List.getElem_cons_succ, List.getElem_cons_zero, Act.put, List.setIfInBounds_toArray, List.set_cons_zero, List.set_cons_succ]
      refine hd_take 11 (_) rfl rfl (by kernel_rfl) (by kernel_rfl) (by kernel_rfl) (fun _ _ _ h => h) (fun w hw => by go_simp <;> rfl) hS ?_
      simp only [List.getElem_toArray, List.getElem_cons_succ, List.getElem_cons_zero, Act.put, List.setIfInBounds_toArray, List.set_cons_zero, List.set_cons_succ]
      refine hg_take 12 (_) rfl rfl (by kernel_rfl) (by kernel_rfl) (by kernel_rfl) (fun _ _ _ h => h) (fun w hw => by go_simp <;> rfl) hS ?_
      simp only [List.getElem_toArray, List.getElem_cons_succ, List.getElem_cons_zero, Act.put, List.setIfInBounds_toArray, List.set_cons_zero, List.set_cons_succ]
      refine hg_take 13 (.slice H k h) rfl rfl (by kernel_rfl) (by kernel_rfl) (by kernel_rfl) (fun _ _ _ h => h) (fun w hw => by have hx := hw.2.1; simp [go_sem, hx]) hS ?_
      simp only [List.getElem_toArray, List.getElem_cons_succ, List.getElem_cons_zero, Act.put, List.setIfInBounds_toArray, List.set_cons_zero, List.set_cons_succ]
      refine hg_calls 14 30 #[.slice H k h, .int .u8 1] rfl rfl (by kernel_rfl) (by go_simp <;> rfl) ?_
      refine (HSY.out _ (bel_on b0 D0.drew)).mono ?_
      rintro e w3 ⟨rfl, rfl⟩
      refine ⟨_, rfl, hS, ?_⟩
      simp only [List.getElem_toArray, List.getElem_cons_succ, List.getElem_cons_zero, Act.put, List.setIfInBounds_toArray, List.set_cons_zero, List.set_cons_succ]
      cases s with
      | false =>
        refine hd_take 15 (_) rfl rfl (by kernel_rfl) (by kernel_rfl) (by kernel_rfl) (fun _ _ _ h => h) (fun w hw => by go_simp <;> rfl) hS ?_
        simp only [List.getElem_toArray, List.getElem_cons_succ, List.getElem_cons_zero, Act.put, List.setIfInBounds_toArray, List.set_cons_zero, List.set_cons_succ]
        refine hd_take 16 (_) rfl rfl (by kernel_rfl) (by kernel_rfl) (by kernel_rfl) (fun _ _ _ h => h) (fun w hw => by go_simp <;> rfl) hS ?_
        simp only [List.getElem_toArray, List.getElem_cons_succ, List.getElem_cons_zero, Act.put, List.setIfInBounds_toArray, List.set_cons_zero, List.set_cons_succ]
        refine hg_skip 17 rfl rfl (by kernel_rfl) (by kernel_rfl) (by kernel_rfl) (fun _ _ _ h => h) hS ?_
        refine hg_skip 18 rfl rfl (by kernel_rfl) (by kernel_rfl) (by kernel_rfl) (fun _ _ _ h => h) hS ?_
        refine hg_skip 19 rfl rfl (by kernel_rfl) (by kernel_rfl) (by kernel_rfl) (fun _ _ _ h => h) hS ?_
        refine hg_skip 20 rfl rfl (by kernel_rfl) (by kernel_rfl) (by kernel_rfl) (fun _ _ _ h => h) hS ?_
        refine hg_skip 21 rfl rfl (by kernel_rfl) (by kernel_rfl) (by kernel_rfl) (fun _ _ _ h => h) hS ?_
        refine hg_skip 22 rfl rfl (by kernel_rfl) (by kernel_rfl) (by kernel_rfl) (fun _ _ _ h => h) hS ?_
        refine hg_skip 23 rfl rfl (by kernel_rfl) (by kernel_rfl) (by kernel_rfl) (fun _ _ _ h => h) hS ?_
        refine hg_skip 24 rfl rfl (by kernel_rfl) (by kernel_rfl) (by kernel_rfl) (fun _ _ _ h => h) hS ?_
        simp only [List.getElem_toArray, List.getElem_cons_succ, List.getElem_cons_zero, Act.put, List.setIfInBounds_toArray, List.set_cons_zero, List.set_cons_succ]
        refine hd_take 25 (_) rfl rfl (by kernel_rfl) (by kernel_rfl) (by kernel_rfl) (fun _ _ _ h => h) (fun w hw => by go_simp <;> rfl) hS ?_
        simp only [List.getElem_toArray, List.getElem_cons_succ, List.getElem_cons_zero, Act.put, List.setIfInBounds_toArray, List.set_cons_zero, List.set_cons_succ]
        refine hd_take 26 (_) rfl rfl (by kernel_rfl) (by kernel_rfl) (by kernel_rfl) (fun _ _ _ h => h) (fun w hw => by go_simp <;> rfl) hS ?_
        simp only [List.getElem_toArray, List.getElem_cons_succ, List.getElem_cons_zero, Act.put, List.setIfInBounds_toArray, List.set_cons_zero, List.set_cons_succ]
        refine wpAnyH_done (by kernel_rfl) (NoPanic.normal ?_) _
        clear hS
        go_wp2_with fail
        go_ret
        exact ⟨by rw [HOP.out]; simp, bel_on b0 D0.drew⟩
      | true =>
        refine hd_take 15 (_) rfl rfl (by kernel_rfl) (by kernel_rfl) (by kernel_rfl) (fun _ _ _ h => h) (fun w hw => by go_simp <;> rfl) hS ?_
        simp only [List.getElem_toArray, List.getElem_cons_succ, List.getElem_cons_zero, Act.put, List.setIfInBounds_toArray, List.set_cons_zero, List.set_cons_succ]
        refine hd_take 16 (_) rfl rfl (by kernel_rfl) (by kernel_rfl) (by kernel_rfl) (fun _ _ _ h => h) (fun w hw => by go_simp <;> rfl) hS ?_
        simp only [List.getElem_toArray, List.getElem_cons_succ, List.getElem_cons_zero, Act.put, List.setIfInBounds_toArray, List.set_cons_zero, List.set_cons_succ]
        refine hg_take 17 (_) rfl rfl (by kernel_rfl) (by kernel_rfl) (by kernel_rfl) (fun _ _ _ h => h) (fun w hw => by go_simp <;> rfl) hS ?_
        refine hg_take 19 (_) rfl rfl (by kernel_rfl) (by kernel_rfl) (by kernel_rfl) (fun _ _ _ h => h) (fun w hw => by go_simp <;> rfl) hS ?_
        refine hg_take 22 (_) rfl rfl (by kernel_rfl) (by kernel_rfl) (by kernel_rfl) (fun _ _ _ h => h) (fun w hw => by go_simp <;> rfl) hS ?_
        simp only [List.getElem_toArray, List.getElem_cons_succ, List.getElem_cons_zero, Act.put, List.setIfInBounds_toArray, List.set_cons_zero, List.set_cons_succ]
        refine hg_take 18 (.slice H k h) rfl rfl (by kernel_rfl) (by kernel_rfl) (by kernel_rfl) (fun _ _ _ h => h) (fun w hw => by have hx := hw.2.1; simp [go_sem, hx]) hS ?_
        refine hg_load 20 w.heap.size 39 (cellsB nonce) _ _ rfl rfl rfl (by kernel_rfl) (by kernel_rfl) (by kernel_rfl) (fun _ _ _ h => h) rfl (fun w hw => hw.2.2.2.1) under_key rfl (key_info HNN.out) hS ?_
        refine hg_load 23 w.heap.size 16 (cellsB com) _ _ rfl rfl rfl (by kernel_rfl) (by kernel_rfl) (by kernel_rfl) (fun _ _ _ h => h) rfl (fun w hw => hw.2.2.2.2) under_key rfl (key_info HC.out) hS ?_
        simp only [List.getElem_toArray, List.getElem_cons_succ, List.getElem_cons_zero, Act.put, List.setIfInBounds_toArray, List.set_cons_zero, List.set_cons_succ]
        refine hg_calls 21 63 #[.slice H k h, .agg (cellsB nonce).toArray] rfl rfl (by kernel_rfl) (by go_simp <;> rfl) ?_
        refine (HCO.out rfl _ (bel_on b0 D0.drew)).mono ?_
        rintro e w4 ⟨rfl, hb4⟩
        have D4 := bel_on D0.drew hb4
        have hS4 := HS.out _ D4
        refine ⟨_, rfl, hS4, ?_⟩
        simp only [List.getElem_toArray, List.getElem_cons_succ, List.getElem_cons_zero, Act.put, List.setIfInBounds_toArray, List.set_cons_zero, List.set_cons_succ]
        refine hg_take 24 (.bool (d == com)) rfl rfl (by kernel_rfl) (by kernel_rfl) (by kernel_rfl) (fun _ _ _ h => h) (fun w hw => by have hx := equalIn_keys w d com HDL HC; simp [go_sem, hx]) hS4 ?_
        simp only [List.getElem_toArray, List.getElem_cons_succ, List.getElem_cons_zero, Act.put, List.setIfInBounds_toArray, List.set_cons_zero, List.set_cons_succ]
        refine hd_take 25 (_) rfl rfl (by kernel_rfl) (by kernel_rfl) (by kernel_rfl) (fun _ _ _ h => h) (fun w hw => by go_simp <;> rfl) hS4 ?_
        simp only [List.getElem_toArray, List.getElem_cons_succ, List.getElem_cons_zero, Act.put, List.setIfInBounds_toArray, List.set_cons_zero, List.set_cons_succ]
        refine hd_take 26 (_) rfl rfl (by kernel_rfl) (by kernel_rfl) (by kernel_rfl) (fun _ _ _ h => h) (fun w hw => by go_simp <;> rfl) hS4 ?_
        simp only [List.getElem_toArray, List.getElem_cons_succ, List.getElem_cons_zero, Act.put, List.setIfInBounds_toArray, List.set_cons_zero, List.set_cons_succ]
        refine wpAnyH_done (by kernel_rfl) (NoPanic.normal ?_) _
        clear hS hS4 hb4
        have HKN := Lib.hid hkn
        clear hkn
        generalize hdc : (d == com) = z
        have HDC := Lib.hid hdc
        clear hdc
        go_wp2_with fail
        go_ret
        exact ⟨by rw [HOP.out, HDC.out, HKN.out]; simp, bel_on b0 D4⟩
    · have e1 : ((k : Int) == (n : Int)) = false := by simp; omega
      refine hg_take 9 (.bool false) rfl rfl (by kernel_rfl) (by kernel_rfl) (by kernel_rfl) (fun _ _ _ h => h) (fun w hw => by simp [go_sem, e1]) hS ?_
      simp only [List.getElem_toArray, List.getElem_cons_succ, List.getElem_cons_zero, Act.put, List.setIfInBounds_toArray, List.set_cons_zero, List.set_cons_succ]
      refine hd_take 10 (_) rfl rfl (by kernel_rfl) (by kernel_rfl) (by kernel_rfl) (fun _ _ _ h => h) (fun w hw => by go_simp <;> rfl) hS ?_
      simp only [List.getElem_toArray, List.getElem_cons_succ, List.getElem_cons_zero, Act.put, List.setIfInBounds_toArray, List.set_cons_zero, List.set_cons_succ]
      refine hd_take 11 (_) rfl rfl (by kernel_rfl) (by kernel_rfl) (by kernel_rfl) (fun _ _ _ h => h) (fun w hw => by go_simp <;> rfl) hS ?_
      simp only [List.getElem_toArray, List.getElem_cons_succ, List.getElem_cons_zero, Act.put, List.setIfInBounds_toArray, List.set_cons_zero, List.set_cons_succ]
      refine hg_skip 12 rfl rfl (by kernel_rfl) (by kernel_rfl) (by kernel_rfl) (fun _ _ _ h => h) hS ?_
      refine hg_skip 13 rfl rfl (by kernel_rfl) (by kernel_rfl) (by kernel_rfl) (fun _ _ _ h => h) hS ?_
      refine hg_skip 14 rfl rfl (by kernel_rfl) (by kernel_rfl) (by kernel_rfl) (fun _ _ _ h => h) hS ?_
      simp only [List.getElem_toArray, List.getElem_cons_succ, List.getElem_cons_zero, Act.put, List.setIfInBounds_toArray, List.set_cons_zero, List.set_cons_succ]
      refine hd_take 15 (_) rfl rfl (by kernel_rfl) (by kernel_rfl) (by kernel_rfl) (fun _ _ _ h => h) (fun w hw => by go_simp <;> rfl) hS ?_
      simp only [List.getElem_toArray, List.getElem_cons_succ, List.getElem_cons_zero, Act.put, List.setIfInBounds_toArray, List.set_cons_zero, List.set_cons_succ]
      refine hd_take 16 (_) rfl rfl (by kernel_rfl) (by kernel_rfl) (by kernel_rfl) (fun _ _ _ h => h) (fun w hw => by go_simp <;> rfl) hS ?_
      simp only [List.getElem_toArray, List.getElem_cons_succ, List.getElem_cons_zero, Act.put, List.setIfInBounds_toArray, List.set_cons_zero, List.set_cons_succ]
      refine hg_skip 17 rfl rfl (by kernel_rfl) (by kernel_rfl) (by kernel_rfl) (fun _ _ _ h => h) hS ?_
      refine hg_skip 18 rfl rfl (by kernel_rfl) (by kernel_rfl) (by kernel_rfl) (fun _ _ _ h => h) hS ?_
      refine hg_skip 19 rfl rfl (by kernel_rfl) (by kernel_rfl) (by kernel_rfl) (fun _ _ _ h => h) hS ?_
      refine hg_skip 20 rfl rfl (by kernel_rfl) (by kernel_rfl) (by kernel_rfl) (fun _ _ _ h => h) hS ?_
      refine hg_skip 21 rfl rfl (by kernel_rfl) (by kernel_rfl) (by kernel_rfl) (fun _ _ _ h => h) hS ?_
      refine hg_skip 22 rfl rfl (by kernel_rfl) (by kernel_rfl) (by kernel_rfl) (fun _ _ _ h => h) hS ?_
      refine hg_skip 23 rfl rfl (by kernel_rfl) (by kernel_rfl) (by kernel_rfl) (fun _ _ _ h => h) hS ?_
      refine hg_skip 24 rfl rfl (by kernel_rfl) (by kernel_rfl) (by kernel_rfl) (fun _ _ _ h => h) hS ?_
      simp only [List.getElem_toArray, List.getElem_cons_succ, List.getElem_cons_zero, Act.put, List.setIfInBounds_toArray, List.set_cons_zero, List.set_cons_succ]
      refine hd_take 25 (_) rfl rfl (by kernel_rfl) (by kernel_rfl) (by kernel_rfl) (fun _ _ _ h => h) (fun w hw => by go_simp <;> rfl) hS ?_
      simp only [List.getElem_toArray, List.getElem_cons_succ, List.getElem_cons_zero, Act.put, List.setIfInBounds_toArray, List.set_cons_zero, List.set_cons_succ]
      refine hd_take 26 (_) rfl rfl (by kernel_rfl) (by kernel_rfl) (by kernel_rfl) (fun _ _ _ h => h) (fun w hw => by go_simp <;> rfl) hS ?_
      simp only [List.getElem_toArray, List.getElem_cons_succ, List.getElem_cons_zero, Act.put, List.setIfInBounds_toArray, List.set_cons_zero, List.set_cons_succ]
      refine wpAnyH_done (by kernel_rfl) (NoPanic.normal ?_) _
      clear hS
      have HKN := Lib.hid hkn
      clear hkn e1
      go_wp2_with fail
      go_ret
      exact ⟨by rw [HOP.out, decide_eq_false HKN.out]; simp, bel_on b0 D0.drew⟩
end Go.Proofs.YtchnaimpmegbkaaGreatDoor

/- The third test of a case, and the document's count. -/
namespace Go.Proofs.YtchnaimpmegbkaaGreatDoor
open Go.RowKit
set_option linter.unusedVariables false
set_option linter.unusedSimpArgs false

set_option maxHeartbeats 4000000 in
set_option maxRecDepth 100000 in
theorem test3_any (v : CV) (A : Option Addr) (m c : Nat) (Y : Option Addr) (n y : Nat) (H : Option Addr) (k h : Nat) (w : World) (g : CaseOK w v A m c Y n y H k h) (hkn : k = n) (h1 : 1 ≤ n) :
    Calls Tryz.prog 157 #[.agg (caseC v A m c Y n y H k h).toArray] w fun e w' => e = .returned (.bool (agreesB v)) ∧ Below w.heap.size w w' := by
  obtain rfl : n = k := hkn.symm
  have b0 := alloc_bel w (.cells (caseC v A m c Y n y H n h).toArray 43)
  have B0 := Blk.new w 43 (caseC v A m c Y n y H n h).toArray
  have HBX : Hid (∀ W, Below (w.alloc (.cells (caseC v A m c Y n y H n h).toArray 43)).heap.size (w.alloc (.cells (caseC v A m c Y n y H n h).toArray 43)) W → Box W w.heap.size v A m c Y n y H n h) := fun W hW => box_of (B0.below' hW) g.r16 g.c16 g.n16
  have D0 : Below (w.alloc (.cells (caseC v A m c Y n y H n h).toArray 43)).heap.size (w.alloc (.cells (caseC v A m c Y n y H n h).toArray 43)) (w.alloc (.cells (caseC v A m c Y n y H n h).toArray 43)) := Below.refl _ _
  have hkl := g.half.len
  have hki : (n : Int) ≤ 140737488351232 := by rw [g.hk] at hkl; omega
  have HYR := Lib.hid (g.cp.below b0)
  have HHR := Lib.hid (g.half.below b0)
  have HK := Lib.hid g.hk
  have HN := Lib.hid g.hn
  have HAG : Hid (agreesB v = decide (v.need ≤ (agreeN v.half v.cp n : Int))) := by unfold Hid agreesB; rw [g.hn]
  generalize agreesB v = q at HAG ⊢
  generalize caseC v A m c Y n y H n h = cs at HBX b0 D0 HYR HHR ⊢
  obtain ⟨W0, hW0⟩ : ∃ W, W = w.alloc (.cells cs.toArray 43) := ⟨_, rfl⟩
  rw [← hW0] at HBX b0 D0 HYR HHR
  have HW0 := Lib.hid hW0
  obtain ⟨root, com, a, b, P, cp, need, op, half, nonce⟩ := v
  dsimp only at HAG HYR HHR HK HN
  have k35 : W0.cell? ⟨w.heap.size, 35, none⟩ = some (.slice Y n y) := (HBX.out _ D0).c35
  have HS : Hid (∀ W, Below W0.heap.size W0 W → W.cell? ⟨w.heap.size, 36, none⟩ = some (.int .i64 need) ∧ W.cell? ⟨w.heap.size, 38, none⟩ = some (.slice H n h)) := fun W hW => by
    have := HBX.out W hW
    exact ⟨this.c36, this.c38⟩
  obtain ⟨yb, yo, hY, _, _⟩ := HYR.out.at_ (i := 0) (by have := HN.out; omega)
  obtain ⟨hb, ho, hH, _, _⟩ := HHR.out.at_ (i := 0) (by have := HK.out; omega)
  subst hY hH
  have HYB : Hid (∀ W, Below W0.heap.size W0 W → ∀ i, i < n → W.cell? ⟨yb, yo + i, none⟩ = some (.int .u8 (bt cp i : Int))) := fun W hW i hi => by
    obtain ⟨b', off', e, _, hc⟩ := (HYR.out.below hW).at_ (i := i) (by have := HN.out; omega)
    injection e with e
    injection e with e1 e2
    subst e1 e2
    exact hc
  have HHB : Hid (∀ W, Below W0.heap.size W0 W → ∀ i, i < n → W.cell? ⟨hb, ho + i, none⟩ = some (.int .u8 (bt half i : Int))) := fun W hW i hi => by
    obtain ⟨b', off', e, _, hc⟩ := (HHR.out.below hW).at_ (i := i) (by have := HK.out; omega)
    injection e with e
    injection e with e1 e2
    subst e1 e2
    exact hc
  clear g hkl h1 hW0 B0 HBX HYR HHR
  go_enter Tryz.func157, Tryz.ntmps157
  go_wp2_with (rw [← HW0.out])
  go_loop [3, 9] (fun vm vk => ∃ (k : Nat), k ≤ n ∧ vk = .int .i64 (k : Int) ∧ vm = .int .i64 (agreeN half cp k : Int)) (fun _ vk => n - (intOf vk).toNat)
  case atStart => exact ⟨0, by omega, rfl, rfl⟩
  case round =>
    obtain ⟨k, hk, rfl, rfl⟩ := hrel
    have hal := agreeN_le half cp k
    by_cases hkn : k < n
    · have hy := HYB.out _ D0 k hkn
      have hh := HHB.out _ D0 k hkn
      have h38 := (HS.out _ D0).2
      have hki : (k : Int) < n := by omega
      have HST := Lib.hid (agreeN_yes (x := half) (y := cp) (i := k))
      have HSF := Lib.hid (agreeN_no (x := half) (y := cp) (i := k))
      by_cases he : bt half k = bt cp k
      · have hd : (bt cp k : Int) = (bt half k : Int) := by omega
        have HE := Lib.hid (HST.out he)
        rw [hd] at hy
        generalize (bt half k : Int) = z at hy hh
        clear he hd HST HSF
        go_wp2_with fail
        go_round
        case rel => exact ⟨k + 1, by omega, by go_num, by rw [HE.out]; go_num⟩
        case measure => simp [intOf]; omega
      · have hd : ¬ (bt cp k : Int) = (bt half k : Int) := by omega
        have HE := Lib.hid (HSF.out he)
        generalize (bt half k : Int) = z at hy hh hd
        generalize (bt cp k : Int) = z' at hy hd
        clear he HST HSF
        go_wp2_with fail
        go_round
        case rel => exact ⟨k + 1, by omega, by go_num, by rw [HE.out]⟩
        case measure => simp [intOf]; omega
    · obtain rfl : k = n := by omega
      have hki : (k : Int) ≤ k := Int.le_refl _
      have h36 := (HS.out _ D0).1
      generalize agreeN half cp k = z at HAG hal ⊢
      go_wp2_with fail
      go_ret
      exact ⟨by rw [HAG.out]; simp, bel_on b0 D0⟩

end Go.Proofs.YtchnaimpmegbkaaGreatDoor

/- The verdict on a case. -/
namespace Go.Proofs.YtchnaimpmegbkaaGreatDoor
open Go.RowKit
set_option linter.unusedVariables false
set_option linter.unusedSimpArgs false

/-- The table of the tests. -/
def TestsIn (w : World) : Prop := w.rangeAt 0 0 [.int .u8 1, .func (.func 154) #[] #[], .int .u8 2, .func (.func 156) #[] #[], .int .u8 4, .func (.func 157) #[] #[]]
theorem fitB_iff {v : CV} : fitB v = true ↔ halfB v.cp 2 = true ∧ 1 ≤ v.need ∧ v.need ≤ (v.cp.length : Int) ∧ fitsB v.a v.b v.P.length = true := by simp [fitB]
theorem judge_bad {v : CV} (h : fitB v = false) : judgeS v = (0, 8) := by unfold judgeS; rw [if_pos h]
theorem judge_1 {v : CV} (h : fitB v = true) (h1 : givesB v = false) : judgeS v = (1, 0) := by unfold judgeS; rw [if_neg (by rw [h]; simp), if_pos h1]
theorem judge_2 {v : CV} (h : fitB v = true) (h1 : givesB v = true) (h2 : opensB v = false) : judgeS v = (2, 0) := by unfold judgeS; rw [if_neg (by rw [h]; simp), if_neg (by rw [h1]; simp), if_pos h2]
theorem judge_3 {v : CV} (h : fitB v = true) (h1 : givesB v = true) (h2 : opensB v = true) (h3 : agreesB v = true) : judgeS v = (3, 0) := by unfold judgeS; rw [if_neg (by rw [h]; simp), if_neg (by rw [h1]; simp), if_neg (by rw [h2]; simp), if_pos h3]
theorem judge_4 {v : CV} (h : fitB v = true) (h1 : givesB v = true) (h2 : opensB v = true) (h3 : agreesB v = false) : judgeS v = (4, 0) := by unfold judgeS; rw [if_neg (by rw [h]; simp), if_neg (by rw [h1]; simp), if_neg (by rw [h2]; simp), if_neg (by rw [h3]; simp)]
theorem opens_same {v : CV} (h : opensB v = true) : v.half.length = v.cp.length := by
  unfold opensB at h
  simp only [Bool.and_eq_true, decide_eq_true_eq] at h
  exact h.2.1

set_option maxHeartbeats 8000000 in
set_option maxRecDepth 100000 in
theorem Judge_any (v : CV) (A : Option Addr) (m c : Nat) (Y : Option Addr) (n y : Nat) (H : Option Addr) (k h : Nat) (w : World) (g : CaseOK w v A m c Y n y H k h) (hT : TestsIn w) :
    Calls Tryz.prog 11 #[.agg (caseC v A m c Y n y H k h).toArray] w fun e w' => e = .returned (.tuple #[.int .u8 (judgeS v).1, .int .i64 (judgeS v).2]) ∧ Below w.heap.size w w' := by
  have b0 := alloc_bel w (.cells (caseC v A m c Y n y H k h).toArray 43)
  have B0 := Blk.new w 43 (caseC v A m c Y n y H k h).toArray
  have HBX : Hid (∀ W, Below (w.alloc (.cells (caseC v A m c Y n y H k h).toArray 43)).heap.size (w.alloc (.cells (caseC v A m c Y n y H k h).toArray 43)) W → Box W w.heap.size v A m c Y n y H k h) := fun W hW => box_of (B0.below' hW) g.r16 g.c16 g.n16
  have HBK : Hid (∀ W, Below (w.alloc (.cells (caseC v A m c Y n y H k h).toArray 43)).heap.size (w.alloc (.cells (caseC v A m c Y n y H k h).toArray 43)) W → Blk W w.heap.size 43 (caseC v A m c Y n y H k h).toArray) := fun W hW => B0.below' hW
  have HCI := Lib.hid (case_info (v := v) (A := A) (m := m) (c := c) (Y := Y) (n := n) (y := y) (H := H) (k := k) (h := h) g.r16 g.c16 g.n16)
  have D0 : Below (w.alloc (.cells (caseC v A m c Y n y H k h).toArray 43)).heap.size (w.alloc (.cells (caseC v A m c Y n y H k h).toArray 43)) (w.alloc (.cells (caseC v A m c Y n y H k h).toArray 43)) := Below.refl _ _
  have hnl := g.cp.len
  have hml := g.P.len
  have hni : (n : Int) ≤ 140737488351232 := by rw [g.hn] at hnl; omega
  have HTW : Hid (∀ W, Below w.heap.size w W → W.rangeAt 0 0 [.int .u8 1, .func (.func 154) #[] #[], .int .u8 2, .func (.func 156) #[] #[], .int .u8 4, .func (.func 157) #[] #[]]) := fun W hW => range_below hT hW
  have HSY : Hid (∀ W, Below w.heap.size w W → Calls Tryz.prog 30 #[.slice Y n y, .int .u8 2] W fun e w' => e = .returned (.bool (halfB v.cp 2)) ∧ W = w') := fun W hW => auditSyms_any Y y v.cp 2 W g.hn (g.cp.below hW) (by omega)
  have HF : Hid (∀ W, Calls Tryz.prog 31 #[.agg #[.int .i64 v.a, .int .i64 v.b, .slice A m c]] W fun e w' => e = .returned (.bool (fitsB v.a v.b m)) ∧ Below W.heap.size W w') := fun W => fits_any v.a v.b A m c W (by rw [← g.hm]; exact hml)
  have HFI : Hid (fitB v = true ↔ halfB v.cp 2 = true ∧ 1 ≤ v.need ∧ v.need ≤ (n : Int) ∧ fitsB v.a v.b m = true) := by unfold Hid; rw [fitB_iff, g.hn, g.hm]
  have HJ0 := Lib.hid (@judge_bad v)
  have HJ1 := Lib.hid (@judge_1 v)
  have HJ2 := Lib.hid (@judge_2 v)
  have HJ3 := Lib.hid (@judge_3 v)
  have HJ4 := Lib.hid (@judge_4 v)
  have HO := Lib.hid (@opens_same v)
  have HC1 : Hid (fitsB v.a v.b m = true → ∀ W, Below w.heap.size w W → Calls Tryz.prog 154 #[.agg (caseC v A m c Y n y H k h).toArray] W fun e w' => e = .returned (.bool (givesB v)) ∧ Below W.heap.size W w') := fun hf W hW => test1_any v A m c Y n y H k h W (g.below hW) hf
  have HC2 : Hid (∀ W, Below w.heap.size w W → Calls Tryz.prog 156 #[.agg (caseC v A m c Y n y H k h).toArray] W fun e w' => e = .returned (.bool (opensB v)) ∧ Below W.heap.size W w') := fun W hW => test2_any v A m c Y n y H k h W (g.below hW)
  have HC3 : Hid (opensB v = true → 1 ≤ n → ∀ W, Below w.heap.size w W → Calls Tryz.prog 157 #[.agg (caseC v A m c Y n y H k h).toArray] W fun e w' => e = .returned (.bool (agreesB v)) ∧ Below W.heap.size W w') := fun ho h1 W hW => test3_any v A m c Y n y H k h W (g.below hW) (by rw [← g.hk, ← g.hn]; exact HO.out ho) h1
  clear HO
  generalize judgeS v = J at HJ0 HJ1 HJ2 HJ3 HJ4 ⊢
  generalize givesB v = t1 at HJ1 HJ2 HJ3 HJ4 HC1
  generalize opensB v = t2 at HJ2 HJ3 HJ4 HC2 HC3
  generalize agreesB v = t3 at HJ3 HJ4 HC3
  generalize fitB v = q at HFI HJ0 HJ1 HJ2 HJ3 HJ4
  generalize halfB v.cp 2 = s at HSY HFI
  generalize fitsB v.a v.b m = f at HF HFI HC1
  generalize caseC v A m c Y n y H k h = cs at HBX HBK HCI b0 D0 HC1 HC2 HC3 ⊢
  obtain ⟨W0, hW0⟩ : ∃ W, W = w.alloc (.cells cs.toArray 43) := ⟨_, rfl⟩
  rw [← hW0] at HBX HBK b0 D0
  have HW0 := Lib.hid hW0
  obtain ⟨root, com, a, b, P, cp, need, op, half, nonce⟩ := v
  dsimp only at HF HFI
  have k35 : W0.cell? ⟨w.heap.size, 35, none⟩ = some (.slice Y n y) := (HBX.out _ D0).c35
  have k36 : W0.cell? ⟨w.heap.size, 36, none⟩ = some (.int .i64 need) := (HBX.out _ D0).c36
  have k32 : W0.cell? ⟨w.heap.size, 32, none⟩ = some (.int .i64 a) := (HBX.out _ D0).pr 0 _ rfl
  have k33 : W0.cell? ⟨w.heap.size, 33, none⟩ = some (.int .i64 b) := (HBX.out _ D0).pr 1 _ rfl
  have k34 : W0.cell? ⟨w.heap.size, 34, none⟩ = some (.slice A m c) := (HBX.out _ D0).pr 2 _ rfl
  clear g hnl hml hT hW0 B0 HBX
  have ways : s = false ∨ (s = true ∧ need < 1) ∨ (s = true ∧ 1 ≤ need ∧ (n : Int) < need) ∨ (s = true ∧ 1 ≤ need ∧ need ≤ (n : Int) ∧ f = false) ∨ (s = true ∧ 1 ≤ need ∧ need ≤ (n : Int) ∧ f = true) := by
    cases s <;> cases f <;> simp <;> omega
  rcases ways with rfl | ⟨rfl, h1⟩ | ⟨rfl, h1, h2⟩ | ⟨rfl, h1, h2, rfl⟩ | ⟨rfl, h1, h2, rfl⟩
  · have HJ : Hid (J = (0, 8)) := HJ0.out (by cases q with | false => rfl | true => have := HFI.out.1 rfl; simp at this; try omega)
    clear HJ0 HJ1 HJ2 HJ3 HJ4 HC1 HC2 HC3 HFI 
    go_enter Tryz.func11, Tryz.ntmps11
    go_wp2_with (first
    | (go_at_call 30; (first | rw [← HW0.out] | skip); refine (HSY.out _ b0).mono ?_; rintro e w1 ⟨rfl, rfl⟩)
    | (go_at_call 31; refine (HF.out _).mono ?_; rintro e w1 ⟨rfl, hb1⟩; have D1 := bel_on D0 hb1; clear hb1)
    | rw [← HW0.out])
    go_ret2
    exact ⟨by rw [HJ.out]; first | rfl | simp, bel_on b0 D0⟩
  · have HJ : Hid (J = (0, 8)) := HJ0.out (by cases q with | false => rfl | true => have := HFI.out.1 rfl; simp at this; try omega)
    have s1 : decide (need < 1) = true := by simp; omega
    clear HJ0 HJ1 HJ2 HJ3 HJ4 HC1 HC2 HC3 HFI h1
    go_enter Tryz.func11, Tryz.ntmps11
    go_wp2_with (first
    | (go_at_call 30; (first | rw [← HW0.out] | skip); refine (HSY.out _ b0).mono ?_; rintro e w1 ⟨rfl, rfl⟩)
    | (go_at_call 31; refine (HF.out _).mono ?_; rintro e w1 ⟨rfl, hb1⟩; have D1 := bel_on D0 hb1; clear hb1)
    | rw [← HW0.out])
    go_ret2
    exact ⟨by rw [HJ.out]; first | rfl | simp, bel_on b0 D0⟩
  · have HJ : Hid (J = (0, 8)) := HJ0.out (by cases q with | false => rfl | true => have := HFI.out.1 rfl; simp at this; try omega)
    have s1 : decide (need < 1) = false := by simp; omega
    have s2 : decide ((n : Int) < need) = true := by simp; omega
    clear HJ0 HJ1 HJ2 HJ3 HJ4 HC1 HC2 HC3 HFI h1 h2
    go_enter Tryz.func11, Tryz.ntmps11
    go_wp2_with (first
    | (go_at_call 30; (first | rw [← HW0.out] | skip); refine (HSY.out _ b0).mono ?_; rintro e w1 ⟨rfl, rfl⟩)
    | (go_at_call 31; refine (HF.out _).mono ?_; rintro e w1 ⟨rfl, hb1⟩; have D1 := bel_on D0 hb1; clear hb1)
    | rw [← HW0.out])
    go_ret2
    exact ⟨by rw [HJ.out]; first | rfl | simp, bel_on b0 D0⟩
  · have HJ : Hid (J = (0, 8)) := HJ0.out (by cases q with | false => rfl | true => have := HFI.out.1 rfl; simp at this; try omega)
    have s1 : decide (need < 1) = false := by simp; omega
    have s2 : decide ((n : Int) < need) = false := by simp; omega
    clear HJ0 HJ1 HJ2 HJ3 HJ4 HC1 HC2 HC3 HFI h1 h2
    go_enter Tryz.func11, Tryz.ntmps11
    go_wp2_with (first
    | (go_at_call 30; (first | rw [← HW0.out] | skip); refine (HSY.out _ b0).mono ?_; rintro e w1 ⟨rfl, rfl⟩)
    | (go_at_call 31; refine (HF.out _).mono ?_; rintro e w1 ⟨rfl, hb1⟩; have D1 := bel_on D0 hb1; clear hb1)
    | rw [← HW0.out])
    go_ret2
    exact ⟨by rw [HJ.out]; first | rfl | simp, bel_on b0 D1⟩
  · have hq : q = true := HFI.out.2 ⟨rfl, h1, h2, rfl⟩
    subst hq
    have s1 : decide (need < 1) = false := by simp; omega
    have s2 : decide ((n : Int) < need) = false := by simp; omega
    have HC1' := Lib.hid (HC1.out rfl)
    have HC3' : Hid (t2 = true → ∀ W, Below w.heap.size w W → Calls Tryz.prog 157 #[.agg cs.toArray] W fun e w' => e = .returned (.bool t3) ∧ Below W.heap.size W w') := fun ht => HC3.out ht (by omega)
    have hix0 : ∀ W, (Instr.index 85 (.agg #[.int .u8 1, .func (.func 154) #[] #[], .int .u8 2, .func (.func 156) #[] #[], .int .u8 4, .func (.func 157) #[] #[]]) (.int .i64 0)).run Tryz.prog W = .ok (.agg #[.int .u8 1, .func (.func 154) #[] #[]]) W := fun _ => by kernel_rfl
    have hix1 : ∀ W, (Instr.index 85 (.agg #[.int .u8 1, .func (.func 154) #[] #[], .int .u8 2, .func (.func 156) #[] #[], .int .u8 4, .func (.func 157) #[] #[]]) (.int .i64 1)).run Tryz.prog W = .ok (.agg #[.int .u8 2, .func (.func 156) #[] #[]]) W := fun _ => by kernel_rfl
    have hix2 : ∀ W, (Instr.index 85 (.agg #[.int .u8 1, .func (.func 154) #[] #[], .int .u8 2, .func (.func 156) #[] #[], .int .u8 4, .func (.func 157) #[] #[]]) (.int .i64 2)).run Tryz.prog W = .ok (.agg #[.int .u8 4, .func (.func 157) #[] #[]]) W := fun _ => by kernel_rfl
    clear HJ0 HC1 HC3 HFI h1 h2
    go_enter Tryz.func11, Tryz.ntmps11
    go_wp2_with (first
    | (go_at_call 30; (first | rw [← HW0.out] | skip); refine (HSY.out _ b0).mono ?_; rintro e w1 ⟨rfl, rfl⟩)
    | (go_at_call 31; refine (HF.out _).mono ?_; rintro e w1 ⟨rfl, hb1⟩; have D1 := bel_on D0 hb1; clear hb1)
    | rw [← HW0.out]
    | (refine wpList_load_mid rfl 85 (.global 0) rfl 0 0 rfl [.int .u8 1, .func (.func 154) #[] #[], .int .u8 2, .func (.func 156) #[] #[], .int .u8 4, .func (.func 157) #[] #[]] _ (HTW.out _ (bel_on b0 D1)) Tryz.underlying85 rfl (by kernel_rfl) ?_))
    go_loopw [30] (fun vi wr => ((vi = .int .i64 0) ∨ (vi = .int .i64 1 ∧ Hid (t1 = true)) ∨ (vi = .int .i64 2 ∧ Hid (t1 = true) ∧ Hid (t2 = true)) ∨ (vi = .int .i64 3 ∧ Hid (t1 = true) ∧ Hid (t2 = true) ∧ Hid (t3 = true))) ∧ Below W0.heap.size W0 wr) (fun vi _ => 3 - (intOf vi).toNat)
    case atStart => exact ⟨.inl rfl, D1⟩
    case round =>
      obtain ⟨hrel, DW⟩ := hrel
      rcases hrel with rfl | ⟨rfl, T1⟩ | ⟨rfl, T1, T2⟩ | ⟨rfl, T1, T2, T3⟩
      · cases t1 with
        | false =>
          have HJ := Lib.hid (HJ1.out (by simp) (by simp))
          clear HJ1 HJ2 HJ3 HJ4
          go_wp2_with (first
            | (refine wpList_store_row rfl 84 (.tmp 5) (.tmp 32) rfl wr.heap.size #[.int .u8 1, .func (.func 154) #[] #[]] rfl rfl 84 #[.int .u8 0, .nilFunc] (Blk.new wr _ _) (by kernel_rfl) rfl (by simp [Value.oneCell']) ?_; obtain ⟨W2, hW2⟩ : ∃ W, W = (wr.alloc (.cells #[.int .u8 0, .nilFunc] 84)).setRow wr.heap.size #[.int .u8 1, .func (.func 154) #[] #[]] := ⟨_, rfl⟩; rw [← hW2]; have B2 : Blk W2 wr.heap.size 84 #[.int .u8 1, .func (.func 154) #[] #[]] := (by rw [hW2]; exact (Blk.new wr _ _).setRow _); have DW2 : Below W0.heap.size W0 W2 := (by rw [hW2]; exact below_setRow (bel_on DW (alloc_bel wr _)) DW.size _); have c1 : W2.cell? ⟨wr.heap.size, 1, none⟩ = some (.func (.func 154) #[] #[]) := B2.cell 1; clear hW2)
            | (refine wpList_load_row rfl 43 (.tmp 1) rfl w.heap.size rfl 43 cs.toArray (0, 0) _ (HBK.out _ DW2) Tryz.underlying43 rfl HCI.out ?_)
            | (go_at_call 154; refine (HC1'.out _ (bel_on b0 DW2)).mono ?_; rintro e w2 ⟨rfl, hb2⟩; have D2 := bel_on DW2 hb2; have c0 : w2.cell? ⟨wr.heap.size, 0, none⟩ = some (.int .u8 1) := (B2.below' hb2).cell 0; clear hb2))
          go_ret2
          exact ⟨by rw [HJ.out]; first | rfl | simp, bel_on b0 D2⟩
        | true =>
          go_wp2_with (first
            | (refine wpList_store_row rfl 84 (.tmp 5) (.tmp 32) rfl wr.heap.size #[.int .u8 1, .func (.func 154) #[] #[]] rfl rfl 84 #[.int .u8 0, .nilFunc] (Blk.new wr _ _) (by kernel_rfl) rfl (by simp [Value.oneCell']) ?_; obtain ⟨W2, hW2⟩ : ∃ W, W = (wr.alloc (.cells #[.int .u8 0, .nilFunc] 84)).setRow wr.heap.size #[.int .u8 1, .func (.func 154) #[] #[]] := ⟨_, rfl⟩; rw [← hW2]; have B2 : Blk W2 wr.heap.size 84 #[.int .u8 1, .func (.func 154) #[] #[]] := (by rw [hW2]; exact (Blk.new wr _ _).setRow _); have DW2 : Below W0.heap.size W0 W2 := (by rw [hW2]; exact below_setRow (bel_on DW (alloc_bel wr _)) DW.size _); have c1 : W2.cell? ⟨wr.heap.size, 1, none⟩ = some (.func (.func 154) #[] #[]) := B2.cell 1; clear hW2)
            | (refine wpList_load_row rfl 43 (.tmp 1) rfl w.heap.size rfl 43 cs.toArray (0, 0) _ (HBK.out _ DW2) Tryz.underlying43 rfl HCI.out ?_)
            | (go_at_call 154; refine (HC1'.out _ (bel_on b0 DW2)).mono ?_; rintro e w2 ⟨rfl, hb2⟩; have D2 := bel_on DW2 hb2; have c0 : w2.cell? ⟨wr.heap.size, 0, none⟩ = some (.int .u8 1) := (B2.below' hb2).cell 0; clear hb2))
          go_roundw
          case rel => exact ⟨.inr (.inl ⟨rfl, Lib.hid (by simp)⟩), D2⟩
          case measure => simp [intOf]
      · cases t2 with
        | false =>
          have HJ := Lib.hid (HJ2.out (by simp) T1.out (by simp))
          clear HJ1 HJ2 HJ3 HJ4
          go_wp2_with (first
            | (refine wpList_store_row rfl 84 (.tmp 5) (.tmp 32) rfl wr.heap.size #[.int .u8 2, .func (.func 156) #[] #[]] rfl rfl 84 #[.int .u8 0, .nilFunc] (Blk.new wr _ _) (by kernel_rfl) rfl (by simp [Value.oneCell']) ?_; obtain ⟨W2, hW2⟩ : ∃ W, W = (wr.alloc (.cells #[.int .u8 0, .nilFunc] 84)).setRow wr.heap.size #[.int .u8 2, .func (.func 156) #[] #[]] := ⟨_, rfl⟩; rw [← hW2]; have B2 : Blk W2 wr.heap.size 84 #[.int .u8 2, .func (.func 156) #[] #[]] := (by rw [hW2]; exact (Blk.new wr _ _).setRow _); have DW2 : Below W0.heap.size W0 W2 := (by rw [hW2]; exact below_setRow (bel_on DW (alloc_bel wr _)) DW.size _); have c1 : W2.cell? ⟨wr.heap.size, 1, none⟩ = some (.func (.func 156) #[] #[]) := B2.cell 1; clear hW2)
            | (refine wpList_load_row rfl 43 (.tmp 1) rfl w.heap.size rfl 43 cs.toArray (0, 0) _ (HBK.out _ DW2) Tryz.underlying43 rfl HCI.out ?_)
            | (go_at_call 156; refine (HC2.out _ (bel_on b0 DW2)).mono ?_; rintro e w2 ⟨rfl, hb2⟩; have D2 := bel_on DW2 hb2; have c0 : w2.cell? ⟨wr.heap.size, 0, none⟩ = some (.int .u8 2) := (B2.below' hb2).cell 0; clear hb2))
          go_ret2
          exact ⟨by rw [HJ.out]; first | rfl | simp, bel_on b0 D2⟩
        | true =>
          go_wp2_with (first
            | (refine wpList_store_row rfl 84 (.tmp 5) (.tmp 32) rfl wr.heap.size #[.int .u8 2, .func (.func 156) #[] #[]] rfl rfl 84 #[.int .u8 0, .nilFunc] (Blk.new wr _ _) (by kernel_rfl) rfl (by simp [Value.oneCell']) ?_; obtain ⟨W2, hW2⟩ : ∃ W, W = (wr.alloc (.cells #[.int .u8 0, .nilFunc] 84)).setRow wr.heap.size #[.int .u8 2, .func (.func 156) #[] #[]] := ⟨_, rfl⟩; rw [← hW2]; have B2 : Blk W2 wr.heap.size 84 #[.int .u8 2, .func (.func 156) #[] #[]] := (by rw [hW2]; exact (Blk.new wr _ _).setRow _); have DW2 : Below W0.heap.size W0 W2 := (by rw [hW2]; exact below_setRow (bel_on DW (alloc_bel wr _)) DW.size _); have c1 : W2.cell? ⟨wr.heap.size, 1, none⟩ = some (.func (.func 156) #[] #[]) := B2.cell 1; clear hW2)
            | (refine wpList_load_row rfl 43 (.tmp 1) rfl w.heap.size rfl 43 cs.toArray (0, 0) _ (HBK.out _ DW2) Tryz.underlying43 rfl HCI.out ?_)
            | (go_at_call 156; refine (HC2.out _ (bel_on b0 DW2)).mono ?_; rintro e w2 ⟨rfl, hb2⟩; have D2 := bel_on DW2 hb2; have c0 : w2.cell? ⟨wr.heap.size, 0, none⟩ = some (.int .u8 2) := (B2.below' hb2).cell 0; clear hb2))
          go_roundw
          case rel => exact ⟨.inr (.inr (.inl ⟨rfl, T1, Lib.hid (by simp)⟩)), D2⟩
          case measure => simp [intOf]
      · cases t3 with
        | false =>
          have HJ := Lib.hid (HJ4.out (by simp) T1.out T2.out (by simp))
          clear HJ1 HJ2 HJ3 HJ4
          go_wp2_with (first
            | (refine wpList_store_row rfl 84 (.tmp 5) (.tmp 32) rfl wr.heap.size #[.int .u8 4, .func (.func 157) #[] #[]] rfl rfl 84 #[.int .u8 0, .nilFunc] (Blk.new wr _ _) (by kernel_rfl) rfl (by simp [Value.oneCell']) ?_; obtain ⟨W2, hW2⟩ : ∃ W, W = (wr.alloc (.cells #[.int .u8 0, .nilFunc] 84)).setRow wr.heap.size #[.int .u8 4, .func (.func 157) #[] #[]] := ⟨_, rfl⟩; rw [← hW2]; have B2 : Blk W2 wr.heap.size 84 #[.int .u8 4, .func (.func 157) #[] #[]] := (by rw [hW2]; exact (Blk.new wr _ _).setRow _); have DW2 : Below W0.heap.size W0 W2 := (by rw [hW2]; exact below_setRow (bel_on DW (alloc_bel wr _)) DW.size _); have c1 : W2.cell? ⟨wr.heap.size, 1, none⟩ = some (.func (.func 157) #[] #[]) := B2.cell 1; clear hW2)
            | (refine wpList_load_row rfl 43 (.tmp 1) rfl w.heap.size rfl 43 cs.toArray (0, 0) _ (HBK.out _ DW2) Tryz.underlying43 rfl HCI.out ?_)
            | (go_at_call 157; refine (HC3'.out T2.out _ (bel_on b0 DW2)).mono ?_; rintro e w2 ⟨rfl, hb2⟩; have D2 := bel_on DW2 hb2; have c0 : w2.cell? ⟨wr.heap.size, 0, none⟩ = some (.int .u8 4) := (B2.below' hb2).cell 0; clear hb2))
          go_ret2
          exact ⟨by rw [HJ.out]; first | rfl | simp, bel_on b0 D2⟩
        | true =>
          go_wp2_with (first
            | (refine wpList_store_row rfl 84 (.tmp 5) (.tmp 32) rfl wr.heap.size #[.int .u8 4, .func (.func 157) #[] #[]] rfl rfl 84 #[.int .u8 0, .nilFunc] (Blk.new wr _ _) (by kernel_rfl) rfl (by simp [Value.oneCell']) ?_; obtain ⟨W2, hW2⟩ : ∃ W, W = (wr.alloc (.cells #[.int .u8 0, .nilFunc] 84)).setRow wr.heap.size #[.int .u8 4, .func (.func 157) #[] #[]] := ⟨_, rfl⟩; rw [← hW2]; have B2 : Blk W2 wr.heap.size 84 #[.int .u8 4, .func (.func 157) #[] #[]] := (by rw [hW2]; exact (Blk.new wr _ _).setRow _); have DW2 : Below W0.heap.size W0 W2 := (by rw [hW2]; exact below_setRow (bel_on DW (alloc_bel wr _)) DW.size _); have c1 : W2.cell? ⟨wr.heap.size, 1, none⟩ = some (.func (.func 157) #[] #[]) := B2.cell 1; clear hW2)
            | (refine wpList_load_row rfl 43 (.tmp 1) rfl w.heap.size rfl 43 cs.toArray (0, 0) _ (HBK.out _ DW2) Tryz.underlying43 rfl HCI.out ?_)
            | (go_at_call 157; refine (HC3'.out T2.out _ (bel_on b0 DW2)).mono ?_; rintro e w2 ⟨rfl, hb2⟩; have D2 := bel_on DW2 hb2; have c0 : w2.cell? ⟨wr.heap.size, 0, none⟩ = some (.int .u8 4) := (B2.below' hb2).cell 0; clear hb2))
          go_roundw
          case rel => exact ⟨.inr (.inr (.inr ⟨rfl, T1, T2, Lib.hid (by simp)⟩)), D2⟩
          case measure => simp [intOf]
      · have HJ := Lib.hid (HJ3.out (by simp) T1.out T2.out T3.out)
        clear HJ1 HJ2 HJ3 HJ4
        go_wp2_with fail
        go_ret2
        exact ⟨by rw [HJ.out]; first | rfl | simp, bel_on b0 DW⟩
end Go.Proofs.YtchnaimpmegbkaaGreatDoor
