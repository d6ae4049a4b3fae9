/-
  Lemmas and contracts, joined: part 8.
-/
import Derived.Test.YtinpiodfpnbllaaGreatDoorAuditJudgesB7
set_option linter.unusedSimpArgs false
set_option linter.unusedVariables false
set_option linter.unnecessarySimpa false
/- The document's verdict on a case: the silent, no half. -/
namespace Go.Proofs.YtinpiodfpnbllaaGreatDoor
open Go.RowKit
set_option linter.unusedVariables false
set_option linter.unusedSimpArgs false


set_option maxHeartbeats 8000000 in
set_option maxRecDepth 100000 in
theorem refJudge_nohalf (v : CV) (A : Option Addr) (m c : Nat) (Y : Option Addr) (n y : Nat) (H : Option Addr) (k h : Nat) (w : World) (g : CaseOK w v A m c Y n y H k h) (hq : fitB v = true) (h1 : givesB v = true) (ho : v.op = true) (hkn : k = n) (hh : halfB v.half 1 = false) :
    Calls Tryz.prog 24 #[.agg (caseC v A m c Y n y H k h).toArray] w fun e w' => e = .returned (.tuple #[.int .u8 2, .int .i64 0]) ∧ Below w.heap.size w w' := by
  have b0 := alloc_bel w (.cells (caseC v A m c Y n y H k h).toArray 29)
  have B0 := Blk.new w 29 (caseC v A m c Y n y H k h).toArray
  have HBX : Hid (∀ W, Below (w.alloc (.cells (caseC v A m c Y n y H k h).toArray 29)).heap.size (w.alloc (.cells (caseC v A m c Y n y H k h).toArray 29)) W → Box W w.heap.size v A m c Y n y H k h) := fun W hW => box_of (B0.below' hW) g.r16 g.c16 g.n16
  have D0 : Below (w.alloc (.cells (caseC v A m c Y n y H k h).toArray 29)).heap.size (w.alloc (.cells (caseC v A m c Y n y H k h).toArray 29)) (w.alloc (.cells (caseC v A m c Y n y H k h).toArray 29)) := Below.refl _ _
  have hnl := g.cp.len
  have hkl := g.half.len
  have hml := g.P.len
  have hni : (n : Int) ≤ 140737488351232 := by rw [g.hn] at hnl; omega
  have hki : (k : Int) ≤ 140737488351232 := by rw [g.hk] at hkl; omega
  have HR := Lib.hid g.r16
  have HC := Lib.hid g.c16
  have HNN := Lib.hid g.n16
  have HSY : Hid (∀ W, Below w.heap.size w W → Calls Tryz.prog 34 #[.slice Y n y, .int .i64 (n : Int)] W fun e w' => e = .returned (.bool (symB v.cp 2)) ∧ W = w') := fun W hW => by
    have := refIsCopy_any Y y v.cp n W g.hn (g.cp.below hW) (by rw [g.hn] at hnl; omega)
    rwa [show copyB v.cp n = symB v.cp 2 from by unfold copyB; rw [g.hn]; simp] at this
  have HF : Hid (∀ W, Calls Tryz.prog 74 #[.agg #[.int .i64 v.a, .int .i64 v.b, .slice A m c]] W fun e w' => e = .returned (.bool (fitsB v.a v.b m)) ∧ Below W.heap.size W w') := fun W => refFits_any v.a v.b A m c W (by rw [← g.hm]; exact hml)
  have HFI : (1 ≤ n ∧ n ≤ 64) ∧ symB v.cp 2 = true ∧ 1 ≤ v.need ∧ v.need ≤ (n : Int) ∧ fitsB v.a v.b m = true := by rw [fitB_iff, halfB_iff, g.hn, g.hm, and_assoc] at hq; exact hq
  have HG : Hid (fitsB v.a v.b m = true → ∀ W, Below w.heap.size w W → Calls Tryz.prog 75 #[.agg (cellsB v.com).toArray, .agg #[.int .i64 v.a, .int .i64 v.b, .slice A m c]] W fun e w' => e = .returned (.agg (cellsB (climbS v.com v.a.toNat v.b.toNat v.P).1).toArray) ∧ Below W.heap.size W w') := fun hf W hW => by
    obtain ⟨⟨g1, g2, g3, g4⟩, g5⟩ := fitsB_iff.1 hf
    have := refGives_any v.com v.a.toNat v.b.toNat v.P A c W g.hm g.c16 (by omega) (by omega) (by omega) (by rw [g.hm]; exact g5) (g.P.below hW)
    rwa [Int.toNat_of_nonneg (by omega), Int.toNat_of_nonneg (by omega)] at this
  have HGB : Hid (((climbS v.com v.a.toNat v.b.toNat v.P).1 == v.root) = true) := h1
  have HGL' := Lib.hid (climbS_length v.com v.a.toNat v.b.toNat v.P)
  have HH : Hid (∀ W, Below w.heap.size w W → Calls Tryz.prog 33 #[.slice H k h] W fun e w' => e = .returned (.bool (halfB v.half 1)) ∧ W = w') := fun W hW => isHalf_any H h v.half W g.hk (g.half.below hW)
  have HP : Hid (halfB v.half 1 = true → ∀ W, Below w.heap.size w W → Calls Tryz.prog 64 #[.slice H k h, .agg (cellsB v.nonce).toArray] W fun e w' => (∃ X x, e = .returned (.slice X (k + 17) x) ∧ BR w' X x (openT v.half v.nonce)) ∧ Below W.heap.size W w') := fun hh W hW => refOpening_any v.half v.nonce H h W g.hk (by have := (halfB_iff.1 hh).1.2; rw [g.hk] at this; omega) g.n16 (g.half.below hW)
  have HD : Hid (halfB v.half 1 = true → ∀ X x W, BR W X x (openT v.half v.nonce) → Calls Tryz.prog 63 #[.slice X (k + 17) x] W fun e w' => e = .returned (.agg (cellsB (digS (openT v.half v.nonce))).toArray) ∧ Below W.heap.size W w') := fun hh X x W hX => refDigest_any (openT v.half v.nonce) X x W (by rw [openT_length _ _ g.n16, g.hk]) hX (by have := (halfB_iff.1 hh).1.2; rw [g.hk] at this; omega)
  have HDL := Lib.hid (digS_length (openT v.half v.nonce))
  have HA : Hid (k = n → 1 ≤ n → ∀ W, Below w.heap.size w W → Calls Tryz.prog 76 #[.slice H k h, .slice Y n y] W fun e w' => e = .returned (.int .i64 (agreeN v.half v.cp n : Int)) ∧ Below W.heap.size W w') := fun e h1 W hW => by
    subst e
    exact refAgreements_any H Y h y v.half v.cp W g.hk g.hn h1 (g.half.below hW) (g.cp.below hW)
  generalize symB v.cp 2 = s at HSY HFI
  generalize halfB v.half 1 = hf at HH HP HD hh
  generalize agreeN v.half v.cp n = z at HA
  generalize (climbS v.com v.a.toNat v.b.toNat v.P).1 = d at HG HGB HGL'
  generalize digS (openT v.half v.nonce) = dg at HD HDL
  generalize openT v.half v.nonce = ot at HP HD
  generalize fitsB v.a v.b m = f at HF HFI HG
  generalize caseC v A m c Y n y H k h = cs at HBX b0 D0 ⊢
  obtain ⟨W0, hW0⟩ : ∃ W, W = w.alloc (.cells cs.toArray 29) := ⟨_, rfl⟩
  rw [← hW0] at HBX b0 D0
  have HW0 := Lib.hid hW0
  obtain ⟨root, com, a, b, P, cp, need, op, half, nonce⟩ := v
  dsimp only at HF HFI HG HGB HR HC HNN HP HBX
  have k35 : W0.cell? ⟨w.heap.size, 35, none⟩ = some (.slice Y n y) := (HBX.out _ D0).c35
  have k36 : W0.cell? ⟨w.heap.size, 36, none⟩ = some (.int .i64 need) := (HBX.out _ D0).c36
  have k32 : W0.cell? ⟨w.heap.size, 32, none⟩ = some (.int .i64 a) := (HBX.out _ D0).pr 0 _ rfl
  have k33 : W0.cell? ⟨w.heap.size, 33, none⟩ = some (.int .i64 b) := (HBX.out _ D0).pr 1 _ rfl
  have k34 : W0.cell? ⟨w.heap.size, 34, none⟩ = some (.slice A m c) := (HBX.out _ D0).pr 2 _ rfl
  have HS : Hid (∀ W, Below W0.heap.size W0 W → W.rangeAt w.heap.size 0 (cellsB root) ∧ W.rangeAt w.heap.size 16 (cellsB com) ∧ W.rangeAt w.heap.size 32 [.int .i64 a, .int .i64 b, .slice A m c] ∧ W.rangeAt w.heap.size 39 (cellsB nonce) ∧ W.cell? ⟨w.heap.size, 35, none⟩ = some (.slice Y n y) ∧ W.cell? ⟨w.heap.size, 36, none⟩ = some (.int .i64 need) ∧ W.cell? ⟨w.heap.size, 37, none⟩ = some (.bool op) ∧ W.cell? ⟨w.heap.size, 38, none⟩ = some (.slice H k h)) := fun W hW => by
    have := HBX.out W hW
    exact ⟨this.root, this.com, this.pr, this.nonce, this.c35, this.c36, this.c37, this.c38⟩
  clear g hnl hkl hml hW0 B0 HBX
  dsimp only at ho
  subst ho hh
  obtain ⟨⟨h1', h2'⟩, rfl, h3', h4', rfl⟩ := HFI
  have s1 : decide ((n : Int) < 1) = false := by simp; omega
  have s2 : decide ((64 : Int) < (n : Int)) = false := by simp; omega
  have s3 : decide (need < 1) = false := by simp; omega
  have s4 : decide ((n : Int) < need) = false := by simp; omega
  have HN1 := Lib.hid h1'
  have HG' := Lib.hid (HG.out rfl)
  clear hq h1' h2' h3' h4' HG h1
  go_enter Tryz.func24, Tryz.ntmps24
  go_wp2_with (first
    | (go_at_call 34; (first | rw [← HW0.out] | skip); refine (HSY.out _ b0).mono ?_; rintro e w1 ⟨rfl, rfl⟩)
    | (go_at_call 74; refine (HF.out _).mono ?_; rintro e w1 ⟨rfl, hb1⟩; have D1 := bel_on D0 hb1; clear hb1)
    | rw [← HW0.out])
  refine wp_region_noPanic ?_
  refine wp_region_held_drew (S := fun w' => w'.rangeAt w.heap.size 0 (cellsB root) ∧ w'.rangeAt w.heap.size 16 (cellsB com) ∧ w'.rangeAt w.heap.size 32 [.int .i64 a, .int .i64 b, .slice A m c] ∧ w'.rangeAt w.heap.size 39 (cellsB nonce) ∧ w'.cell? ⟨w.heap.size, 35, none⟩ = some (.slice Y n y) ∧ w'.cell? ⟨w.heap.size, 36, none⟩ = some (.int .i64 need) ∧ w'.cell? ⟨w.heap.size, 37, none⟩ = some (.bool true) ∧ w'.cell? ⟨w.heap.size, 38, none⟩ = some (.slice H k h)) (by kernel_rfl) (HS.out _ D1.drew) (fun hS => ?_)
  refine hd_take 0 (_) rfl rfl (by kernel_rfl) (by kernel_rfl) (by kernel_rfl) (fun _ _ _ h => h) (fun w hw => by go_simp <;> rfl) hS ?_
  refine hd_take 2 (_) rfl rfl (by kernel_rfl) (by kernel_rfl) (by kernel_rfl) (fun _ _ _ h => h) (fun w hw => by go_simp <;> rfl) hS ?_
  refine hd_take 5 (_) rfl rfl (by kernel_rfl) (by kernel_rfl) (by kernel_rfl) (fun _ _ _ h => h) (fun w hw => by go_simp <;> rfl) hS ?_
  simp only [List.getElem_toArray, List.getElem_cons_succ, List.getElem_cons_zero, Act.put, List.setIfInBounds_toArray, List.set_cons_zero, List.set_cons_succ]
  refine hd_load 1 w.heap.size 16 (cellsB com) _ _ rfl rfl rfl (by kernel_rfl) (by kernel_rfl) (by kernel_rfl) (fun _ _ _ h => h) rfl (fun w hw => hw.2.1) under_key rfl (key_info HC.out) hS ?_
  refine hd_load 3 w.heap.size 32 ([.int .i64 a, .int .i64 b, .slice A m c]) _ _ rfl rfl rfl (by kernel_rfl) (by kernel_rfl) (by kernel_rfl) (fun _ _ _ h => h) rfl (fun w hw => hw.2.2.1) Tryz.underlying27 rfl (by kernel_rfl) hS ?_
  refine hd_load 6 w.heap.size 0 (cellsB root) _ _ rfl rfl rfl (by kernel_rfl) (by kernel_rfl) (by kernel_rfl) (fun _ _ _ h => h) rfl (fun w hw => hw.1) under_key rfl (key_info HR.out) hS ?_
  simp only [List.getElem_toArray, List.getElem_cons_succ, List.getElem_cons_zero, Act.put, List.setIfInBounds_toArray, List.set_cons_zero, List.set_cons_succ]
  refine hd_calls 4 75 #[.agg (cellsB com).toArray, .agg #[.int .i64 a, .int .i64 b, .slice A m c]] rfl rfl (by kernel_rfl) (by go_simp <;> rfl) ?_
  refine (HG'.out _ (bel_on b0 D1.drew)).mono ?_
  rintro e w4 ⟨rfl, hb4⟩
  have D4 := bel_on D1.drew hb4
  have hS4 := HS.out _ D4
  refine ⟨_, rfl, hS4, ?_⟩
  simp only [List.getElem_toArray, List.getElem_cons_succ, List.getElem_cons_zero, Act.put, List.setIfInBounds_toArray, List.set_cons_zero, List.set_cons_succ]
  refine hd_take 7 (.bool false) rfl rfl (by kernel_rfl) (by kernel_rfl) (by kernel_rfl) (fun _ _ _ h => h) (fun w hw => by have hx := equalIn_keys w d root HGL' HR; have hy := HGB.out; simp [go_sem, hx, hy]) hS4 ?_
  simp only [List.getElem_toArray, List.getElem_cons_succ, List.getElem_cons_zero, Act.put, List.setIfInBounds_toArray, List.set_cons_zero, List.set_cons_succ]
  refine wpAnyH_done (by kernel_rfl) (NoPanic.normal ?_) _
  clear hS hS4 hb4 HGB
  go_wp2_with fail
  refine wp_region_noPanic ?_
  refine wp_region_held_drew (S := fun w' => w'.rangeAt w.heap.size 0 (cellsB root) ∧ w'.rangeAt w.heap.size 16 (cellsB com) ∧ w'.rangeAt w.heap.size 32 [.int .i64 a, .int .i64 b, .slice A m c] ∧ w'.rangeAt w.heap.size 39 (cellsB nonce) ∧ w'.cell? ⟨w.heap.size, 35, none⟩ = some (.slice Y n y) ∧ w'.cell? ⟨w.heap.size, 36, none⟩ = some (.int .i64 need) ∧ w'.cell? ⟨w.heap.size, 37, none⟩ = some (.bool true) ∧ w'.cell? ⟨w.heap.size, 38, none⟩ = some (.slice H k h)) (by kernel_rfl) (HS.out _ D4.drew) (fun hS => ?_)
  refine hd_take 0 (_) rfl rfl (by kernel_rfl) (by kernel_rfl) (by kernel_rfl) (fun _ _ _ h => h) (fun w hw => by go_simp <;> rfl) hS ?_
  simp only [List.getElem_toArray, List.getElem_cons_succ, List.getElem_cons_zero, Act.put, List.setIfInBounds_toArray, List.set_cons_zero, List.set_cons_succ]
  refine hd_take 1 (.bool true) rfl rfl (by kernel_rfl) (by kernel_rfl) (by kernel_rfl) (fun _ _ _ h => h) (fun w hw => by have hx := hw.2.2.2.2.2.2.1; simp [go_sem, hx]) hS ?_
  simp only [List.getElem_toArray, List.getElem_cons_succ, List.getElem_cons_zero, Act.put, List.setIfInBounds_toArray, List.set_cons_zero, List.set_cons_succ]
  refine hd_take 2 (.bool false) rfl rfl (by kernel_rfl) (by kernel_rfl) (by kernel_rfl) (fun _ _ _ h => h) (fun w hw => by go_simp <;> rfl) hS ?_
  simp only [List.getElem_toArray, List.getElem_cons_succ, List.getElem_cons_zero, Act.put, List.setIfInBounds_toArray, List.set_cons_zero, List.set_cons_succ]
  refine hd_take 3 (_) rfl rfl (by kernel_rfl) (by kernel_rfl) (by kernel_rfl) (fun _ _ _ h => h) (fun w hw => by go_simp <;> rfl) hS ?_
  simp only [List.getElem_toArray, List.getElem_cons_succ, List.getElem_cons_zero, Act.put, List.setIfInBounds_toArray, List.set_cons_zero, List.set_cons_succ]
  refine hg_take 4 (_) rfl rfl (by kernel_rfl) (by kernel_rfl) (by kernel_rfl) (fun _ _ _ h => h) (fun w hw => by go_simp <;> rfl) hS ?_
  refine hg_take 7 (_) rfl rfl (by kernel_rfl) (by kernel_rfl) (by kernel_rfl) (fun _ _ _ h => h) (fun w hw => by go_simp <;> rfl) hS ?_
  simp only [List.getElem_toArray, List.getElem_cons_succ, List.getElem_cons_zero, Act.put, List.setIfInBounds_toArray, List.set_cons_zero, List.set_cons_succ]
  refine hg_take 5 (.slice H k h) rfl rfl (by kernel_rfl) (by kernel_rfl) (by kernel_rfl) (fun _ _ _ h => h) (fun w hw => by have hx := hw.2.2.2.2.2.2.2; simp [go_sem, hx]) hS ?_
  refine hg_take 8 (.slice Y n y) rfl rfl (by kernel_rfl) (by kernel_rfl) (by kernel_rfl) (fun _ _ _ h => h) (fun w hw => by have hx := hw.2.2.2.2.1; simp [go_sem, hx]) hS ?_
  simp only [List.getElem_toArray, List.getElem_cons_succ, List.getElem_cons_zero, Act.put, List.setIfInBounds_toArray, List.set_cons_zero, List.set_cons_succ]
  refine hg_take 6 (_) rfl rfl (by kernel_rfl) (by kernel_rfl) (by kernel_rfl) (fun _ _ _ h => h) (fun w hw => by go_simp <;> rfl) hS ?_
  refine hg_take 9 (_) rfl rfl (by kernel_rfl) (by kernel_rfl) (by kernel_rfl) (fun _ _ _ h => h) (fun w hw => by go_simp <;> rfl) hS ?_
  simp only [List.getElem_toArray, List.getElem_cons_succ, List.getElem_cons_zero, Act.put, List.setIfInBounds_toArray, List.set_cons_zero, List.set_cons_succ]
  have e1 : ((k : Int) == (n : Int)) = true := by simp; omega
  have HKN := Lib.hid hkn
  refine hg_take 10 (.bool false) rfl rfl (by kernel_rfl) (by kernel_rfl) (by kernel_rfl) (fun _ _ _ h => h) (fun w hw => by simp [go_sem, e1]) hS ?_
  simp only [List.getElem_toArray, List.getElem_cons_succ, List.getElem_cons_zero, Act.put, List.setIfInBounds_toArray, List.set_cons_zero, List.set_cons_succ]
  refine hd_take 11 (_) rfl rfl (by kernel_rfl) (by kernel_rfl) (by kernel_rfl) (fun _ _ _ h => h) (fun w hw => by go_simp <;> rfl) hS ?_
  simp only [List.getElem_toArray, List.getElem_cons_succ, List.getElem_cons_zero, Act.put, List.setIfInBounds_toArray, List.set_cons_zero, List.set_cons_succ]
  refine hd_take 12 (_) rfl rfl (by kernel_rfl) (by kernel_rfl) (by kernel_rfl) (fun _ _ _ h => h) (fun w hw => by go_simp <;> rfl) hS ?_
  simp only [List.getElem_toArray, List.getElem_cons_succ, List.getElem_cons_zero, Act.put, List.setIfInBounds_toArray, List.set_cons_zero, List.set_cons_succ]
  refine hg_take 13 (_) rfl rfl (by kernel_rfl) (by kernel_rfl) (by kernel_rfl) (fun _ _ _ h => h) (fun w hw => by go_simp <;> rfl) hS ?_
  simp only [List.getElem_toArray, List.getElem_cons_succ, List.getElem_cons_zero, Act.put, List.setIfInBounds_toArray, List.set_cons_zero, List.set_cons_succ]
  refine hg_take 14 (.slice H k h) rfl rfl (by kernel_rfl) (by kernel_rfl) (by kernel_rfl) (fun _ _ _ h => h) (fun w hw => by have hx := hw.2.2.2.2.2.2.2; simp [go_sem, hx]) hS ?_
  simp only [List.getElem_toArray, List.getElem_cons_succ, List.getElem_cons_zero, Act.put, List.setIfInBounds_toArray, List.set_cons_zero, List.set_cons_succ]
  refine hg_calls 15 33 #[.slice H k h] rfl rfl (by kernel_rfl) (by go_simp <;> rfl) ?_
  refine (HH.out _ (bel_on b0 D4.drew)).mono ?_
  rintro e w5 ⟨rfl, rfl⟩
  refine ⟨_, rfl, hS, ?_⟩
  simp only [List.getElem_toArray, List.getElem_cons_succ, List.getElem_cons_zero, Act.put, List.setIfInBounds_toArray, List.set_cons_zero, List.set_cons_succ]
  refine hg_take 16 (.bool true) rfl rfl (by kernel_rfl) (by kernel_rfl) (by kernel_rfl) (fun _ _ _ h => h) (fun w hw => by go_simp <;> rfl) hS ?_
  simp only [List.getElem_toArray, List.getElem_cons_succ, List.getElem_cons_zero, Act.put, List.setIfInBounds_toArray, List.set_cons_zero, List.set_cons_succ]
  refine hd_take 17 (_) rfl rfl (by kernel_rfl) (by kernel_rfl) (by kernel_rfl) (fun _ _ _ h => h) (fun w hw => by go_simp <;> rfl) hS ?_
  simp only [List.getElem_toArray, List.getElem_cons_succ, List.getElem_cons_zero, Act.put, List.setIfInBounds_toArray, List.set_cons_zero, List.set_cons_succ]
  refine hd_take 18 (_) rfl rfl (by kernel_rfl) (by kernel_rfl) (by kernel_rfl) (fun _ _ _ h => h) (fun w hw => by go_simp <;> rfl) hS ?_
  simp only [List.getElem_toArray, List.getElem_cons_succ, List.getElem_cons_zero, Act.put, List.setIfInBounds_toArray, List.set_cons_zero, List.set_cons_succ]
  refine hg_skip 19 rfl (by rfl) (by kernel_rfl) (by kernel_rfl) (by kernel_rfl) (fun _ _ _ h => h) hS ?_
  simp only [List.getElem_toArray, List.getElem_cons_succ, List.getElem_cons_zero, Act.put, List.setIfInBounds_toArray, List.set_cons_zero, List.set_cons_succ]
  refine hg_skip 20 rfl (by rfl) (by kernel_rfl) (by kernel_rfl) (by kernel_rfl) (fun _ _ _ h => h) hS ?_
  simp only [List.getElem_toArray, List.getElem_cons_succ, List.getElem_cons_zero, Act.put, List.setIfInBounds_toArray, List.set_cons_zero, List.set_cons_succ]
  refine hg_skip 21 rfl (by rfl) (by kernel_rfl) (by kernel_rfl) (by kernel_rfl) (fun _ _ _ h => h) hS ?_
  simp only [List.getElem_toArray, List.getElem_cons_succ, List.getElem_cons_zero, Act.put, List.setIfInBounds_toArray, List.set_cons_zero, List.set_cons_succ]
  refine hg_skip 22 rfl (by rfl) (by kernel_rfl) (by kernel_rfl) (by kernel_rfl) (fun _ _ _ h => h) hS ?_
  simp only [List.getElem_toArray, List.getElem_cons_succ, List.getElem_cons_zero, Act.put, List.setIfInBounds_toArray, List.set_cons_zero, List.set_cons_succ]
  refine hg_skip 23 rfl (by rfl) (by kernel_rfl) (by kernel_rfl) (by kernel_rfl) (fun _ _ _ h => h) hS ?_
  simp only [List.getElem_toArray, List.getElem_cons_succ, List.getElem_cons_zero, Act.put, List.setIfInBounds_toArray, List.set_cons_zero, List.set_cons_succ]
  refine hg_skip 24 rfl (by rfl) (by kernel_rfl) (by kernel_rfl) (by kernel_rfl) (fun _ _ _ h => h) hS ?_
  simp only [List.getElem_toArray, List.getElem_cons_succ, List.getElem_cons_zero, Act.put, List.setIfInBounds_toArray, List.set_cons_zero, List.set_cons_succ]
  refine hg_skip 25 rfl (by rfl) (by kernel_rfl) (by kernel_rfl) (by kernel_rfl) (fun _ _ _ h => h) hS ?_
  simp only [List.getElem_toArray, List.getElem_cons_succ, List.getElem_cons_zero, Act.put, List.setIfInBounds_toArray, List.set_cons_zero, List.set_cons_succ]
  refine hg_skip 26 rfl (by rfl) (by kernel_rfl) (by kernel_rfl) (by kernel_rfl) (fun _ _ _ h => h) hS ?_
  simp only [List.getElem_toArray, List.getElem_cons_succ, List.getElem_cons_zero, Act.put, List.setIfInBounds_toArray, List.set_cons_zero, List.set_cons_succ]
  refine hg_skip 27 rfl (by rfl) (by kernel_rfl) (by kernel_rfl) (by kernel_rfl) (fun _ _ _ h => h) hS ?_
  simp only [List.getElem_toArray, List.getElem_cons_succ, List.getElem_cons_zero, Act.put, List.setIfInBounds_toArray, List.set_cons_zero, List.set_cons_succ]
  refine hd_take 28 (_) rfl rfl (by kernel_rfl) (by kernel_rfl) (by kernel_rfl) (fun _ _ _ h => h) (fun w hw => by go_simp <;> rfl) hS ?_
  simp only [List.getElem_toArray, List.getElem_cons_succ, List.getElem_cons_zero, Act.put, List.setIfInBounds_toArray, List.set_cons_zero, List.set_cons_succ]
  refine wpAnyH_done (by kernel_rfl) (NoPanic.normal ?_) _
  clear hS e1 hkn
  go_wp2_with fail
  go_ret2
  exact ⟨by first | rfl | simp, bel_on b0 D4.drew⟩
end Go.Proofs.YtinpiodfpnbllaaGreatDoor

/- The document's verdict on a case: the silent, of another commitment. -/
namespace Go.Proofs.YtinpiodfpnbllaaGreatDoor
open Go.RowKit
set_option linter.unusedVariables false
set_option linter.unusedSimpArgs false


set_option maxHeartbeats 8000000 in
set_option maxRecDepth 100000 in
theorem refJudge_other (v : CV) (A : Option Addr) (m c : Nat) (Y : Option Addr) (n y : Nat) (H : Option Addr) (k h : Nat) (w : World) (g : CaseOK w v A m c Y n y H k h) (hq : fitB v = true) (h1 : givesB v = true) (ho : v.op = true) (hkn : k = n) (hh : halfB v.half 1 = true) (hc : (digS (openT v.half v.nonce) == v.com) = false) :
    Calls Tryz.prog 24 #[.agg (caseC v A m c Y n y H k h).toArray] w fun e w' => e = .returned (.tuple #[.int .u8 2, .int .i64 0]) ∧ Below w.heap.size w w' := by
  have b0 := alloc_bel w (.cells (caseC v A m c Y n y H k h).toArray 29)
  have B0 := Blk.new w 29 (caseC v A m c Y n y H k h).toArray
  have HBX : Hid (∀ W, Below (w.alloc (.cells (caseC v A m c Y n y H k h).toArray 29)).heap.size (w.alloc (.cells (caseC v A m c Y n y H k h).toArray 29)) W → Box W w.heap.size v A m c Y n y H k h) := fun W hW => box_of (B0.below' hW) g.r16 g.c16 g.n16
  have D0 : Below (w.alloc (.cells (caseC v A m c Y n y H k h).toArray 29)).heap.size (w.alloc (.cells (caseC v A m c Y n y H k h).toArray 29)) (w.alloc (.cells (caseC v A m c Y n y H k h).toArray 29)) := Below.refl _ _
  have hnl := g.cp.len
  have hkl := g.half.len
  have hml := g.P.len
  have hni : (n : Int) ≤ 140737488351232 := by rw [g.hn] at hnl; omega
  have hki : (k : Int) ≤ 140737488351232 := by rw [g.hk] at hkl; omega
  have HR := Lib.hid g.r16
  have HC := Lib.hid g.c16
  have HNN := Lib.hid g.n16
  have HSY : Hid (∀ W, Below w.heap.size w W → Calls Tryz.prog 34 #[.slice Y n y, .int .i64 (n : Int)] W fun e w' => e = .returned (.bool (symB v.cp 2)) ∧ W = w') := fun W hW => by
    have := refIsCopy_any Y y v.cp n W g.hn (g.cp.below hW) (by rw [g.hn] at hnl; omega)
    rwa [show copyB v.cp n = symB v.cp 2 from by unfold copyB; rw [g.hn]; simp] at this
  have HF : Hid (∀ W, Calls Tryz.prog 74 #[.agg #[.int .i64 v.a, .int .i64 v.b, .slice A m c]] W fun e w' => e = .returned (.bool (fitsB v.a v.b m)) ∧ Below W.heap.size W w') := fun W => refFits_any v.a v.b A m c W (by rw [← g.hm]; exact hml)
  have HFI : (1 ≤ n ∧ n ≤ 64) ∧ symB v.cp 2 = true ∧ 1 ≤ v.need ∧ v.need ≤ (n : Int) ∧ fitsB v.a v.b m = true := by rw [fitB_iff, halfB_iff, g.hn, g.hm, and_assoc] at hq; exact hq
  have HG : Hid (fitsB v.a v.b m = true → ∀ W, Below w.heap.size w W → Calls Tryz.prog 75 #[.agg (cellsB v.com).toArray, .agg #[.int .i64 v.a, .int .i64 v.b, .slice A m c]] W fun e w' => e = .returned (.agg (cellsB (climbS v.com v.a.toNat v.b.toNat v.P).1).toArray) ∧ Below W.heap.size W w') := fun hf W hW => by
    obtain ⟨⟨g1, g2, g3, g4⟩, g5⟩ := fitsB_iff.1 hf
    have := refGives_any v.com v.a.toNat v.b.toNat v.P A c W g.hm g.c16 (by omega) (by omega) (by omega) (by rw [g.hm]; exact g5) (g.P.below hW)
    rwa [Int.toNat_of_nonneg (by omega), Int.toNat_of_nonneg (by omega)] at this
  have HGB : Hid (((climbS v.com v.a.toNat v.b.toNat v.P).1 == v.root) = true) := h1
  have HGL' := Lib.hid (climbS_length v.com v.a.toNat v.b.toNat v.P)
  have HH : Hid (∀ W, Below w.heap.size w W → Calls Tryz.prog 33 #[.slice H k h] W fun e w' => e = .returned (.bool (halfB v.half 1)) ∧ W = w') := fun W hW => isHalf_any H h v.half W g.hk (g.half.below hW)
  have HP : Hid (halfB v.half 1 = true → ∀ W, Below w.heap.size w W → Calls Tryz.prog 64 #[.slice H k h, .agg (cellsB v.nonce).toArray] W fun e w' => (∃ X x, e = .returned (.slice X (k + 17) x) ∧ BR w' X x (openT v.half v.nonce)) ∧ Below W.heap.size W w') := fun hh W hW => refOpening_any v.half v.nonce H h W g.hk (by have := (halfB_iff.1 hh).1.2; rw [g.hk] at this; omega) g.n16 (g.half.below hW)
  have HD : Hid (halfB v.half 1 = true → ∀ X x W, BR W X x (openT v.half v.nonce) → Calls Tryz.prog 63 #[.slice X (k + 17) x] W fun e w' => e = .returned (.agg (cellsB (digS (openT v.half v.nonce))).toArray) ∧ Below W.heap.size W w') := fun hh X x W hX => refDigest_any (openT v.half v.nonce) X x W (by rw [openT_length _ _ g.n16, g.hk]) hX (by have := (halfB_iff.1 hh).1.2; rw [g.hk] at this; omega)
  have HDL := Lib.hid (digS_length (openT v.half v.nonce))
  have HOP : Hid ((digS (openT v.half v.nonce) == v.com) = false) := hc
  have HA : Hid (k = n → 1 ≤ n → ∀ W, Below w.heap.size w W → Calls Tryz.prog 76 #[.slice H k h, .slice Y n y] W fun e w' => e = .returned (.int .i64 (agreeN v.half v.cp n : Int)) ∧ Below W.heap.size W w') := fun e h1 W hW => by
    subst e
    exact refAgreements_any H Y h y v.half v.cp W g.hk g.hn h1 (g.half.below hW) (g.cp.below hW)
  generalize symB v.cp 2 = s at HSY HFI
  generalize halfB v.half 1 = hf at HH HP HD hh
  generalize agreeN v.half v.cp n = z at HA
  generalize (climbS v.com v.a.toNat v.b.toNat v.P).1 = d at HG HGB HGL'
  generalize digS (openT v.half v.nonce) = dg at HD HDL HOP
  generalize openT v.half v.nonce = ot at HP HD
  generalize fitsB v.a v.b m = f at HF HFI HG
  generalize caseC v A m c Y n y H k h = cs at HBX b0 D0 ⊢
  obtain ⟨W0, hW0⟩ : ∃ W, W = w.alloc (.cells cs.toArray 29) := ⟨_, rfl⟩
  rw [← hW0] at HBX b0 D0
  have HW0 := Lib.hid hW0
  obtain ⟨root, com, a, b, P, cp, need, op, half, nonce⟩ := v
  dsimp only at HF HFI HG HGB HR HC HNN HOP HP HBX
  have k35 : W0.cell? ⟨w.heap.size, 35, none⟩ = some (.slice Y n y) := (HBX.out _ D0).c35
  have k36 : W0.cell? ⟨w.heap.size, 36, none⟩ = some (.int .i64 need) := (HBX.out _ D0).c36
  have k32 : W0.cell? ⟨w.heap.size, 32, none⟩ = some (.int .i64 a) := (HBX.out _ D0).pr 0 _ rfl
  have k33 : W0.cell? ⟨w.heap.size, 33, none⟩ = some (.int .i64 b) := (HBX.out _ D0).pr 1 _ rfl
  have k34 : W0.cell? ⟨w.heap.size, 34, none⟩ = some (.slice A m c) := (HBX.out _ D0).pr 2 _ rfl
  have HS : Hid (∀ W, Below W0.heap.size W0 W → W.rangeAt w.heap.size 0 (cellsB root) ∧ W.rangeAt w.heap.size 16 (cellsB com) ∧ W.rangeAt w.heap.size 32 [.int .i64 a, .int .i64 b, .slice A m c] ∧ W.rangeAt w.heap.size 39 (cellsB nonce) ∧ W.cell? ⟨w.heap.size, 35, none⟩ = some (.slice Y n y) ∧ W.cell? ⟨w.heap.size, 36, none⟩ = some (.int .i64 need) ∧ W.cell? ⟨w.heap.size, 37, none⟩ = some (.bool op) ∧ W.cell? ⟨w.heap.size, 38, none⟩ = some (.slice H k h)) := fun W hW => by
    have := HBX.out W hW
    exact ⟨this.root, this.com, this.pr, this.nonce, this.c35, this.c36, this.c37, this.c38⟩
  clear g hnl hkl hml hW0 B0 HBX
  dsimp only at ho
  subst ho hh
  have HP' := Lib.hid (HP.out rfl)
  have HD' := Lib.hid (HD.out rfl)
  clear hc HP HD
  obtain ⟨⟨h1', h2'⟩, rfl, h3', h4', rfl⟩ := HFI
  have s1 : decide ((n : Int) < 1) = false := by simp; omega
  have s2 : decide ((64 : Int) < (n : Int)) = false := by simp; omega
  have s3 : decide (need < 1) = false := by simp; omega
  have s4 : decide ((n : Int) < need) = false := by simp; omega
  have HN1 := Lib.hid h1'
  have HG' := Lib.hid (HG.out rfl)
  clear hq h1' h2' h3' h4' HG h1
  go_enter Tryz.func24, Tryz.ntmps24
  go_wp2_with (first
    | (go_at_call 34; (first | rw [← HW0.out] | skip); refine (HSY.out _ b0).mono ?_; rintro e w1 ⟨rfl, rfl⟩)
    | (go_at_call 74; refine (HF.out _).mono ?_; rintro e w1 ⟨rfl, hb1⟩; have D1 := bel_on D0 hb1; clear hb1)
    | rw [← HW0.out])
  refine wp_region_noPanic ?_
  refine wp_region_held_drew (S := fun w' => w'.rangeAt w.heap.size 0 (cellsB root) ∧ w'.rangeAt w.heap.size 16 (cellsB com) ∧ w'.rangeAt w.heap.size 32 [.int .i64 a, .int .i64 b, .slice A m c] ∧ w'.rangeAt w.heap.size 39 (cellsB nonce) ∧ w'.cell? ⟨w.heap.size, 35, none⟩ = some (.slice Y n y) ∧ w'.cell? ⟨w.heap.size, 36, none⟩ = some (.int .i64 need) ∧ w'.cell? ⟨w.heap.size, 37, none⟩ = some (.bool true) ∧ w'.cell? ⟨w.heap.size, 38, none⟩ = some (.slice H k h)) (by kernel_rfl) (HS.out _ D1.drew) (fun hS => ?_)
  refine hd_take 0 (_) rfl rfl (by kernel_rfl) (by kernel_rfl) (by kernel_rfl) (fun _ _ _ h => h) (fun w hw => by go_simp <;> rfl) hS ?_
  refine hd_take 2 (_) rfl rfl (by kernel_rfl) (by kernel_rfl) (by kernel_rfl) (fun _ _ _ h => h) (fun w hw => by go_simp <;> rfl) hS ?_
  refine hd_take 5 (_) rfl rfl (by kernel_rfl) (by kernel_rfl) (by kernel_rfl) (fun _ _ _ h => h) (fun w hw => by go_simp <;> rfl) hS ?_
  simp only [List.getElem_toArray, List.getElem_cons_succ, List.getElem_cons_zero, Act.put, List.setIfInBounds_toArray, List.set_cons_zero, List.set_cons_succ]
  refine hd_load 1 w.heap.size 16 (cellsB com) _ _ rfl rfl rfl (by kernel_rfl) (by kernel_rfl) (by kernel_rfl) (fun _ _ _ h => h) rfl (fun w hw => hw.2.1) under_key rfl (key_info HC.out) hS ?_
  refine hd_load 3 w.heap.size 32 ([.int .i64 a, .int .i64 b, .slice A m c]) _ _ rfl rfl rfl (by kernel_rfl) (by kernel_rfl) (by kernel_rfl) (fun _ _ _ h => h) rfl (fun w hw => hw.2.2.1) Tryz.underlying27 rfl (by kernel_rfl) hS ?_
  refine hd_load 6 w.heap.size 0 (cellsB root) _ _ rfl rfl rfl (by kernel_rfl) (by kernel_rfl) (by kernel_rfl) (fun _ _ _ h => h) rfl (fun w hw => hw.1) under_key rfl (key_info HR.out) hS ?_
  simp only [List.getElem_toArray, List.getElem_cons_succ, List.getElem_cons_zero, Act.put, List.setIfInBounds_toArray, List.set_cons_zero, List.set_cons_succ]
  refine hd_calls 4 75 #[.agg (cellsB com).toArray, .agg #[.int .i64 a, .int .i64 b, .slice A m c]] rfl rfl (by kernel_rfl) (by go_simp <;> rfl) ?_
  refine (HG'.out _ (bel_on b0 D1.drew)).mono ?_
  rintro e w4 ⟨rfl, hb4⟩
  have D4 := bel_on D1.drew hb4
  have hS4 := HS.out _ D4
  refine ⟨_, rfl, hS4, ?_⟩
  simp only [List.getElem_toArray, List.getElem_cons_succ, List.getElem_cons_zero, Act.put, List.setIfInBounds_toArray, List.set_cons_zero, List.set_cons_succ]
  refine hd_take 7 (.bool false) rfl rfl (by kernel_rfl) (by kernel_rfl) (by kernel_rfl) (fun _ _ _ h => h) (fun w hw => by have hx := equalIn_keys w d root HGL' HR; have hy := HGB.out; simp [go_sem, hx, hy]) hS4 ?_
  simp only [List.getElem_toArray, List.getElem_cons_succ, List.getElem_cons_zero, Act.put, List.setIfInBounds_toArray, List.set_cons_zero, List.set_cons_succ]
  refine wpAnyH_done (by kernel_rfl) (NoPanic.normal ?_) _
  clear hS hS4 hb4 HGB
  go_wp2_with fail
  refine wp_region_noPanic ?_
  refine wp_region_held_drew (S := fun w' => w'.rangeAt w.heap.size 0 (cellsB root) ∧ w'.rangeAt w.heap.size 16 (cellsB com) ∧ w'.rangeAt w.heap.size 32 [.int .i64 a, .int .i64 b, .slice A m c] ∧ w'.rangeAt w.heap.size 39 (cellsB nonce) ∧ w'.cell? ⟨w.heap.size, 35, none⟩ = some (.slice Y n y) ∧ w'.cell? ⟨w.heap.size, 36, none⟩ = some (.int .i64 need) ∧ w'.cell? ⟨w.heap.size, 37, none⟩ = some (.bool true) ∧ w'.cell? ⟨w.heap.size, 38, none⟩ = some (.slice H k h)) (by kernel_rfl) (HS.out _ D4.drew) (fun hS => ?_)
  refine hd_take 0 (_) rfl rfl (by kernel_rfl) (by kernel_rfl) (by kernel_rfl) (fun _ _ _ h => h) (fun w hw => by go_simp <;> rfl) hS ?_
  simp only [List.getElem_toArray, List.getElem_cons_succ, List.getElem_cons_zero, Act.put, List.setIfInBounds_toArray, List.set_cons_zero, List.set_cons_succ]
  refine hd_take 1 (.bool true) rfl rfl (by kernel_rfl) (by kernel_rfl) (by kernel_rfl) (fun _ _ _ h => h) (fun w hw => by have hx := hw.2.2.2.2.2.2.1; simp [go_sem, hx]) hS ?_
  simp only [List.getElem_toArray, List.getElem_cons_succ, List.getElem_cons_zero, Act.put, List.setIfInBounds_toArray, List.set_cons_zero, List.set_cons_succ]
  refine hd_take 2 (.bool false) rfl rfl (by kernel_rfl) (by kernel_rfl) (by kernel_rfl) (fun _ _ _ h => h) (fun w hw => by go_simp <;> rfl) hS ?_
  simp only [List.getElem_toArray, List.getElem_cons_succ, List.getElem_cons_zero, Act.put, List.setIfInBounds_toArray, List.set_cons_zero, List.set_cons_succ]
  refine hd_take 3 (_) rfl rfl (by kernel_rfl) (by kernel_rfl) (by kernel_rfl) (fun _ _ _ h => h) (fun w hw => by go_simp <;> rfl) hS ?_
  simp only [List.getElem_toArray, List.getElem_cons_succ, List.getElem_cons_zero, Act.put, List.setIfInBounds_toArray, List.set_cons_zero, List.set_cons_succ]
  refine hg_take 4 (_) rfl rfl (by kernel_rfl) (by kernel_rfl) (by kernel_rfl) (fun _ _ _ h => h) (fun w hw => by go_simp <;> rfl) hS ?_
  refine hg_take 7 (_) rfl rfl (by kernel_rfl) (by kernel_rfl) (by kernel_rfl) (fun _ _ _ h => h) (fun w hw => by go_simp <;> rfl) hS ?_
  simp only [List.getElem_toArray, List.getElem_cons_succ, List.getElem_cons_zero, Act.put, List.setIfInBounds_toArray, List.set_cons_zero, List.set_cons_succ]
  refine hg_take 5 (.slice H k h) rfl rfl (by kernel_rfl) (by kernel_rfl) (by kernel_rfl) (fun _ _ _ h => h) (fun w hw => by have hx := hw.2.2.2.2.2.2.2; simp [go_sem, hx]) hS ?_
  refine hg_take 8 (.slice Y n y) rfl rfl (by kernel_rfl) (by kernel_rfl) (by kernel_rfl) (fun _ _ _ h => h) (fun w hw => by have hx := hw.2.2.2.2.1; simp [go_sem, hx]) hS ?_
  simp only [List.getElem_toArray, List.getElem_cons_succ, List.getElem_cons_zero, Act.put, List.setIfInBounds_toArray, List.set_cons_zero, List.set_cons_succ]
  refine hg_take 6 (_) rfl rfl (by kernel_rfl) (by kernel_rfl) (by kernel_rfl) (fun _ _ _ h => h) (fun w hw => by go_simp <;> rfl) hS ?_
  refine hg_take 9 (_) rfl rfl (by kernel_rfl) (by kernel_rfl) (by kernel_rfl) (fun _ _ _ h => h) (fun w hw => by go_simp <;> rfl) hS ?_
  simp only [List.getElem_toArray, List.getElem_cons_succ, List.getElem_cons_zero, Act.put, List.setIfInBounds_toArray, List.set_cons_zero, List.set_cons_succ]
  have e1 : ((k : Int) == (n : Int)) = true := by simp; omega
  have HKN := Lib.hid hkn
  refine hg_take 10 (.bool false) rfl rfl (by kernel_rfl) (by kernel_rfl) (by kernel_rfl) (fun _ _ _ h => h) (fun w hw => by simp [go_sem, e1]) hS ?_
  simp only [List.getElem_toArray, List.getElem_cons_succ, List.getElem_cons_zero, Act.put, List.setIfInBounds_toArray, List.set_cons_zero, List.set_cons_succ]
  refine hd_take 11 (_) rfl rfl (by kernel_rfl) (by kernel_rfl) (by kernel_rfl) (fun _ _ _ h => h) (fun w hw => by go_simp <;> rfl) hS ?_
  simp only [List.getElem_toArray, List.getElem_cons_succ, List.getElem_cons_zero, Act.put, List.setIfInBounds_toArray, List.set_cons_zero, List.set_cons_succ]
  refine hd_take 12 (_) rfl rfl (by kernel_rfl) (by kernel_rfl) (by kernel_rfl) (fun _ _ _ h => h) (fun w hw => by go_simp <;> rfl) hS ?_
  simp only [List.getElem_toArray, List.getElem_cons_succ, List.getElem_cons_zero, Act.put, List.setIfInBounds_toArray, List.set_cons_zero, List.set_cons_succ]
  refine hg_take 13 (_) rfl rfl (by kernel_rfl) (by kernel_rfl) (by kernel_rfl) (fun _ _ _ h => h) (fun w hw => by go_simp <;> rfl) hS ?_
  simp only [List.getElem_toArray, List.getElem_cons_succ, List.getElem_cons_zero, Act.put, List.setIfInBounds_toArray, List.set_cons_zero, List.set_cons_succ]
  refine hg_take 14 (.slice H k h) rfl rfl (by kernel_rfl) (by kernel_rfl) (by kernel_rfl) (fun _ _ _ h => h) (fun w hw => by have hx := hw.2.2.2.2.2.2.2; simp [go_sem, hx]) hS ?_
  simp only [List.getElem_toArray, List.getElem_cons_succ, List.getElem_cons_zero, Act.put, List.setIfInBounds_toArray, List.set_cons_zero, List.set_cons_succ]
  refine hg_calls 15 33 #[.slice H k h] rfl rfl (by kernel_rfl) (by go_simp <;> rfl) ?_
  refine (HH.out _ (bel_on b0 D4.drew)).mono ?_
  rintro e w5 ⟨rfl, rfl⟩
  refine ⟨_, rfl, hS, ?_⟩
  simp only [List.getElem_toArray, List.getElem_cons_succ, List.getElem_cons_zero, Act.put, List.setIfInBounds_toArray, List.set_cons_zero, List.set_cons_succ]
  refine hg_take 16 (.bool false) rfl rfl (by kernel_rfl) (by kernel_rfl) (by kernel_rfl) (fun _ _ _ h => h) (fun w hw => by go_simp <;> rfl) hS ?_
  simp only [List.getElem_toArray, List.getElem_cons_succ, List.getElem_cons_zero, Act.put, List.setIfInBounds_toArray, List.set_cons_zero, List.set_cons_succ]
  refine hd_take 17 (_) rfl rfl (by kernel_rfl) (by kernel_rfl) (by kernel_rfl) (fun _ _ _ h => h) (fun w hw => by go_simp <;> rfl) hS ?_
  simp only [List.getElem_toArray, List.getElem_cons_succ, List.getElem_cons_zero, Act.put, List.setIfInBounds_toArray, List.set_cons_zero, List.set_cons_succ]
  refine hd_take 18 (_) rfl rfl (by kernel_rfl) (by kernel_rfl) (by kernel_rfl) (fun _ _ _ h => h) (fun w hw => by go_simp <;> rfl) hS ?_
  simp only [List.getElem_toArray, List.getElem_cons_succ, List.getElem_cons_zero, Act.put, List.setIfInBounds_toArray, List.set_cons_zero, List.set_cons_succ]
  refine hg_take 19 (_) rfl rfl (by kernel_rfl) (by kernel_rfl) (by kernel_rfl) (fun _ _ _ h => h) (fun w hw => by go_simp <;> rfl) hS ?_
  refine hg_take 21 (_) rfl rfl (by kernel_rfl) (by kernel_rfl) (by kernel_rfl) (fun _ _ _ h => h) (fun w hw => by go_simp <;> rfl) hS ?_
  refine hg_take 25 (_) rfl rfl (by kernel_rfl) (by kernel_rfl) (by kernel_rfl) (fun _ _ _ h => h) (fun w hw => by go_simp <;> rfl) hS ?_
  simp only [List.getElem_toArray, List.getElem_cons_succ, List.getElem_cons_zero, Act.put, List.setIfInBounds_toArray, List.set_cons_zero, List.set_cons_succ]
  refine hg_take 20 (.slice H k h) rfl rfl (by kernel_rfl) (by kernel_rfl) (by kernel_rfl) (fun _ _ _ h => h) (fun w hw => by have hx := hw.2.2.2.2.2.2.2; simp [go_sem, hx]) hS ?_
  refine hg_load 22 w.heap.size 39 (cellsB nonce) _ _ rfl rfl rfl (by kernel_rfl) (by kernel_rfl) (by kernel_rfl) (fun _ _ _ h => h) rfl (fun w hw => hw.2.2.2.1) under_key rfl (key_info HNN.out) hS ?_
  refine hg_load 26 w.heap.size 16 (cellsB com) _ _ rfl rfl rfl (by kernel_rfl) (by kernel_rfl) (by kernel_rfl) (fun _ _ _ h => h) rfl (fun w hw => hw.2.1) under_key rfl (key_info HC.out) hS ?_
  simp only [List.getElem_toArray, List.getElem_cons_succ, List.getElem_cons_zero, Act.put, List.setIfInBounds_toArray, List.set_cons_zero, List.set_cons_succ]
  refine hg_calls 23 64 #[.slice H k h, .agg (cellsB nonce).toArray] rfl rfl (by kernel_rfl) (by go_simp <;> rfl) ?_
  refine (HP'.out _ (bel_on b0 D4.drew)).mono ?_
  rintro e w6 ⟨⟨X, x, rfl, hX⟩, hb6⟩
  have D6 := bel_on D4.drew hb6
  have hS6 := HS.out _ D6
  refine ⟨_, rfl, hS6, ?_⟩
  simp only [List.getElem_toArray, List.getElem_cons_succ, List.getElem_cons_zero, Act.put, List.setIfInBounds_toArray, List.set_cons_zero, List.set_cons_succ]
  refine hg_calls 24 63 #[.slice X (k + 17) x] rfl rfl (by kernel_rfl) (by go_simp <;> rfl) ?_
  refine (HD'.out X x _ hX).mono ?_
  rintro e w7 ⟨rfl, hb7⟩
  have D7 := bel_on D6 hb7
  have hS7 := HS.out _ D7
  refine ⟨_, rfl, hS7, ?_⟩
  simp only [List.getElem_toArray, List.getElem_cons_succ, List.getElem_cons_zero, Act.put, List.setIfInBounds_toArray, List.set_cons_zero, List.set_cons_succ]
  refine hg_take 27 (.bool true) rfl rfl (by kernel_rfl) (by kernel_rfl) (by kernel_rfl) (fun _ _ _ h => h) (fun w hw => by have hx := equalIn_keys w dg com HDL HC; have hy := HOP.out; simp [go_sem, hx, hy]) hS7 ?_
  simp only [List.getElem_toArray, List.getElem_cons_succ, List.getElem_cons_zero, Act.put, List.setIfInBounds_toArray, List.set_cons_zero, List.set_cons_succ]
  refine hd_take 28 (_) rfl rfl (by kernel_rfl) (by kernel_rfl) (by kernel_rfl) (fun _ _ _ h => h) (fun w hw => by go_simp <;> rfl) hS7 ?_
  simp only [List.getElem_toArray, List.getElem_cons_succ, List.getElem_cons_zero, Act.put, List.setIfInBounds_toArray, List.set_cons_zero, List.set_cons_succ]
  refine wpAnyH_done (by kernel_rfl) (NoPanic.normal ?_) _
  clear hS hS6 hS7 hb6 hb7 hX e1 hkn
  go_wp2_with fail
  go_ret2
  exact ⟨by first | rfl | simp, bel_on b0 D7⟩
end Go.Proofs.YtinpiodfpnbllaaGreatDoor

/- The document's verdict on a case: the guilty and the framed. -/
namespace Go.Proofs.YtinpiodfpnbllaaGreatDoor
open Go.RowKit
set_option linter.unusedVariables false
set_option linter.unusedSimpArgs false


set_option maxHeartbeats 8000000 in
set_option maxRecDepth 100000 in
theorem refJudge_last (v : CV) (A : Option Addr) (m c : Nat) (Y : Option Addr) (n y : Nat) (H : Option Addr) (k h : Nat) (w : World) (g : CaseOK w v A m c Y n y H k h) (hq : fitB v = true) (h1 : givesB v = true) (ho : v.op = true) (hkn : k = n) (hh : halfB v.half 1 = true) (hc : (digS (openT v.half v.nonce) == v.com) = true) :
    Calls Tryz.prog 24 #[.agg (caseC v A m c Y n y H k h).toArray] w fun e w' => e = .returned (.tuple #[.int .u8 (if agreesB v = true then 3 else 4), .int .i64 0]) ∧ Below w.heap.size w w' := by
  have b0 := alloc_bel w (.cells (caseC v A m c Y n y H k h).toArray 29)
  have B0 := Blk.new w 29 (caseC v A m c Y n y H k h).toArray
  have HBX : Hid (∀ W, Below (w.alloc (.cells (caseC v A m c Y n y H k h).toArray 29)).heap.size (w.alloc (.cells (caseC v A m c Y n y H k h).toArray 29)) W → Box W w.heap.size v A m c Y n y H k h) := fun W hW => box_of (B0.below' hW) g.r16 g.c16 g.n16
  have D0 : Below (w.alloc (.cells (caseC v A m c Y n y H k h).toArray 29)).heap.size (w.alloc (.cells (caseC v A m c Y n y H k h).toArray 29)) (w.alloc (.cells (caseC v A m c Y n y H k h).toArray 29)) := Below.refl _ _
  have hnl := g.cp.len
  have hkl := g.half.len
  have hml := g.P.len
  have hni : (n : Int) ≤ 140737488351232 := by rw [g.hn] at hnl; omega
  have hki : (k : Int) ≤ 140737488351232 := by rw [g.hk] at hkl; omega
  have HR := Lib.hid g.r16
  have HC := Lib.hid g.c16
  have HNN := Lib.hid g.n16
  have HSY : Hid (∀ W, Below w.heap.size w W → Calls Tryz.prog 34 #[.slice Y n y, .int .i64 (n : Int)] W fun e w' => e = .returned (.bool (symB v.cp 2)) ∧ W = w') := fun W hW => by
    have := refIsCopy_any Y y v.cp n W g.hn (g.cp.below hW) (by rw [g.hn] at hnl; omega)
    rwa [show copyB v.cp n = symB v.cp 2 from by unfold copyB; rw [g.hn]; simp] at this
  have HF : Hid (∀ W, Calls Tryz.prog 74 #[.agg #[.int .i64 v.a, .int .i64 v.b, .slice A m c]] W fun e w' => e = .returned (.bool (fitsB v.a v.b m)) ∧ Below W.heap.size W w') := fun W => refFits_any v.a v.b A m c W (by rw [← g.hm]; exact hml)
  have HFI : (1 ≤ n ∧ n ≤ 64) ∧ symB v.cp 2 = true ∧ 1 ≤ v.need ∧ v.need ≤ (n : Int) ∧ fitsB v.a v.b m = true := by rw [fitB_iff, halfB_iff, g.hn, g.hm, and_assoc] at hq; exact hq
  have HG : Hid (fitsB v.a v.b m = true → ∀ W, Below w.heap.size w W → Calls Tryz.prog 75 #[.agg (cellsB v.com).toArray, .agg #[.int .i64 v.a, .int .i64 v.b, .slice A m c]] W fun e w' => e = .returned (.agg (cellsB (climbS v.com v.a.toNat v.b.toNat v.P).1).toArray) ∧ Below W.heap.size W w') := fun hf W hW => by
    obtain ⟨⟨g1, g2, g3, g4⟩, g5⟩ := fitsB_iff.1 hf
    have := refGives_any v.com v.a.toNat v.b.toNat v.P A c W g.hm g.c16 (by omega) (by omega) (by omega) (by rw [g.hm]; exact g5) (g.P.below hW)
    rwa [Int.toNat_of_nonneg (by omega), Int.toNat_of_nonneg (by omega)] at this
  have HGB : Hid (((climbS v.com v.a.toNat v.b.toNat v.P).1 == v.root) = true) := h1
  have HGL' := Lib.hid (climbS_length v.com v.a.toNat v.b.toNat v.P)
  have HH : Hid (∀ W, Below w.heap.size w W → Calls Tryz.prog 33 #[.slice H k h] W fun e w' => e = .returned (.bool (halfB v.half 1)) ∧ W = w') := fun W hW => isHalf_any H h v.half W g.hk (g.half.below hW)
  have HP : Hid (halfB v.half 1 = true → ∀ W, Below w.heap.size w W → Calls Tryz.prog 64 #[.slice H k h, .agg (cellsB v.nonce).toArray] W fun e w' => (∃ X x, e = .returned (.slice X (k + 17) x) ∧ BR w' X x (openT v.half v.nonce)) ∧ Below W.heap.size W w') := fun hh W hW => refOpening_any v.half v.nonce H h W g.hk (by have := (halfB_iff.1 hh).1.2; rw [g.hk] at this; omega) g.n16 (g.half.below hW)
  have HD : Hid (halfB v.half 1 = true → ∀ X x W, BR W X x (openT v.half v.nonce) → Calls Tryz.prog 63 #[.slice X (k + 17) x] W fun e w' => e = .returned (.agg (cellsB (digS (openT v.half v.nonce))).toArray) ∧ Below W.heap.size W w') := fun hh X x W hX => refDigest_any (openT v.half v.nonce) X x W (by rw [openT_length _ _ g.n16, g.hk]) hX (by have := (halfB_iff.1 hh).1.2; rw [g.hk] at this; omega)
  have HDL := Lib.hid (digS_length (openT v.half v.nonce))
  have HOP : Hid ((digS (openT v.half v.nonce) == v.com) = true) := hc
  have HA : Hid (k = n → 1 ≤ n → ∀ W, Below w.heap.size w W → Calls Tryz.prog 76 #[.slice H k h, .slice Y n y] W fun e w' => e = .returned (.int .i64 (agreeN v.half v.cp n : Int)) ∧ Below W.heap.size W w') := fun e h1 W hW => by
    subst e
    exact refAgreements_any H Y h y v.half v.cp W g.hk g.hn h1 (g.half.below hW) (g.cp.below hW)
  have HAG : Hid (agreesB v = decide (v.need ≤ (agreeN v.half v.cp n : Int))) := by unfold Hid agreesB; rw [g.hn]
  generalize agreesB v = t3 at HAG ⊢
  generalize symB v.cp 2 = s at HSY HFI
  generalize halfB v.half 1 = hf at HH HP HD hh
  generalize agreeN v.half v.cp n = z at HA HAG
  generalize (climbS v.com v.a.toNat v.b.toNat v.P).1 = d at HG HGB HGL'
  generalize digS (openT v.half v.nonce) = dg at HD HDL HOP
  generalize openT v.half v.nonce = ot at HP HD
  generalize fitsB v.a v.b m = f at HF HFI HG
  generalize caseC v A m c Y n y H k h = cs at HBX b0 D0 ⊢
  obtain ⟨W0, hW0⟩ : ∃ W, W = w.alloc (.cells cs.toArray 29) := ⟨_, rfl⟩
  rw [← hW0] at HBX b0 D0
  have HW0 := Lib.hid hW0
  obtain ⟨root, com, a, b, P, cp, need, op, half, nonce⟩ := v
  dsimp only at HF HFI HG HGB HR HC HNN HOP HAG HP HBX
  have k35 : W0.cell? ⟨w.heap.size, 35, none⟩ = some (.slice Y n y) := (HBX.out _ D0).c35
  have k36 : W0.cell? ⟨w.heap.size, 36, none⟩ = some (.int .i64 need) := (HBX.out _ D0).c36
  have k32 : W0.cell? ⟨w.heap.size, 32, none⟩ = some (.int .i64 a) := (HBX.out _ D0).pr 0 _ rfl
  have k33 : W0.cell? ⟨w.heap.size, 33, none⟩ = some (.int .i64 b) := (HBX.out _ D0).pr 1 _ rfl
  have k34 : W0.cell? ⟨w.heap.size, 34, none⟩ = some (.slice A m c) := (HBX.out _ D0).pr 2 _ rfl
  have HS : Hid (∀ W, Below W0.heap.size W0 W → W.rangeAt w.heap.size 0 (cellsB root) ∧ W.rangeAt w.heap.size 16 (cellsB com) ∧ W.rangeAt w.heap.size 32 [.int .i64 a, .int .i64 b, .slice A m c] ∧ W.rangeAt w.heap.size 39 (cellsB nonce) ∧ W.cell? ⟨w.heap.size, 35, none⟩ = some (.slice Y n y) ∧ W.cell? ⟨w.heap.size, 36, none⟩ = some (.int .i64 need) ∧ W.cell? ⟨w.heap.size, 37, none⟩ = some (.bool op) ∧ W.cell? ⟨w.heap.size, 38, none⟩ = some (.slice H k h)) := fun W hW => by
    have := HBX.out W hW
    exact ⟨this.root, this.com, this.pr, this.nonce, this.c35, this.c36, this.c37, this.c38⟩
  clear g hnl hkl hml hW0 B0 HBX
  dsimp only at ho
  subst ho hh
  have HP' := Lib.hid (HP.out rfl)
  have HD' := Lib.hid (HD.out rfl)
  clear hc HP HD
  obtain ⟨⟨h1', h2'⟩, rfl, h3', h4', rfl⟩ := HFI
  have s1 : decide ((n : Int) < 1) = false := by simp; omega
  have s2 : decide ((64 : Int) < (n : Int)) = false := by simp; omega
  have s3 : decide (need < 1) = false := by simp; omega
  have s4 : decide ((n : Int) < need) = false := by simp; omega
  have HN1 := Lib.hid h1'
  have HG' := Lib.hid (HG.out rfl)
  clear hq h1' h2' h3' h4' HG h1
  go_enter Tryz.func24, Tryz.ntmps24
  go_wp2_with (first
    | (go_at_call 34; (first | rw [← HW0.out] | skip); refine (HSY.out _ b0).mono ?_; rintro e w1 ⟨rfl, rfl⟩)
    | (go_at_call 74; refine (HF.out _).mono ?_; rintro e w1 ⟨rfl, hb1⟩; have D1 := bel_on D0 hb1; clear hb1)
    | rw [← HW0.out])
  refine wp_region_noPanic ?_
  refine wp_region_held_drew (S := fun w' => w'.rangeAt w.heap.size 0 (cellsB root) ∧ w'.rangeAt w.heap.size 16 (cellsB com) ∧ w'.rangeAt w.heap.size 32 [.int .i64 a, .int .i64 b, .slice A m c] ∧ w'.rangeAt w.heap.size 39 (cellsB nonce) ∧ w'.cell? ⟨w.heap.size, 35, none⟩ = some (.slice Y n y) ∧ w'.cell? ⟨w.heap.size, 36, none⟩ = some (.int .i64 need) ∧ w'.cell? ⟨w.heap.size, 37, none⟩ = some (.bool true) ∧ w'.cell? ⟨w.heap.size, 38, none⟩ = some (.slice H k h)) (by kernel_rfl) (HS.out _ D1.drew) (fun hS => ?_)
  refine hd_take 0 (_) rfl rfl (by kernel_rfl) (by kernel_rfl) (by kernel_rfl) (fun _ _ _ h => h) (fun w hw => by go_simp <;> rfl) hS ?_
  refine hd_take 2 (_) rfl rfl (by kernel_rfl) (by kernel_rfl) (by kernel_rfl) (fun _ _ _ h => h) (fun w hw => by go_simp <;> rfl) hS ?_
  refine hd_take 5 (_) rfl rfl (by kernel_rfl) (by kernel_rfl) (by kernel_rfl) (fun _ _ _ h => h) (fun w hw => by go_simp <;> rfl) hS ?_
  simp only [List.getElem_toArray, List.getElem_cons_succ, List.getElem_cons_zero, Act.put, List.setIfInBounds_toArray, List.set_cons_zero, List.set_cons_succ]
  refine hd_load 1 w.heap.size 16 (cellsB com) _ _ rfl rfl rfl (by kernel_rfl) (by kernel_rfl) (by kernel_rfl) (fun _ _ _ h => h) rfl (fun w hw => hw.2.1) under_key rfl (key_info HC.out) hS ?_
  refine hd_load 3 w.heap.size 32 ([.int .i64 a, .int .i64 b, .slice A m c]) _ _ rfl rfl rfl (by kernel_rfl) (by kernel_rfl) (by kernel_rfl) (fun _ _ _ h => h) rfl (fun w hw => hw.2.2.1) Tryz.underlying27 rfl (by kernel_rfl) hS ?_
  refine hd_load 6 w.heap.size 0 (cellsB root) _ _ rfl rfl rfl (by kernel_rfl) (by kernel_rfl) (by kernel_rfl) (fun _ _ _ h => h) rfl (fun w hw => hw.1) under_key rfl (key_info HR.out) hS ?_
  simp only [List.getElem_toArray, List.getElem_cons_succ, List.getElem_cons_zero, Act.put, List.setIfInBounds_toArray, List.set_cons_zero, List.set_cons_succ]
  refine hd_calls 4 75 #[.agg (cellsB com).toArray, .agg #[.int .i64 a, .int .i64 b, .slice A m c]] rfl rfl (by kernel_rfl) (by go_simp <;> rfl) ?_
  refine (HG'.out _ (bel_on b0 D1.drew)).mono ?_
  rintro e w4 ⟨rfl, hb4⟩
  have D4 := bel_on D1.drew hb4
  have hS4 := HS.out _ D4
  refine ⟨_, rfl, hS4, ?_⟩
  simp only [List.getElem_toArray, List.getElem_cons_succ, List.getElem_cons_zero, Act.put, List.setIfInBounds_toArray, List.set_cons_zero, List.set_cons_succ]
  refine hd_take 7 (.bool false) rfl rfl (by kernel_rfl) (by kernel_rfl) (by kernel_rfl) (fun _ _ _ h => h) (fun w hw => by have hx := equalIn_keys w d root HGL' HR; have hy := HGB.out; simp [go_sem, hx, hy]) hS4 ?_
  simp only [List.getElem_toArray, List.getElem_cons_succ, List.getElem_cons_zero, Act.put, List.setIfInBounds_toArray, List.set_cons_zero, List.set_cons_succ]
  refine wpAnyH_done (by kernel_rfl) (NoPanic.normal ?_) _
  clear hS hS4 hb4 HGB
  go_wp2_with fail
  refine wp_region_noPanic ?_
  refine wp_region_held_drew (S := fun w' => w'.rangeAt w.heap.size 0 (cellsB root) ∧ w'.rangeAt w.heap.size 16 (cellsB com) ∧ w'.rangeAt w.heap.size 32 [.int .i64 a, .int .i64 b, .slice A m c] ∧ w'.rangeAt w.heap.size 39 (cellsB nonce) ∧ w'.cell? ⟨w.heap.size, 35, none⟩ = some (.slice Y n y) ∧ w'.cell? ⟨w.heap.size, 36, none⟩ = some (.int .i64 need) ∧ w'.cell? ⟨w.heap.size, 37, none⟩ = some (.bool true) ∧ w'.cell? ⟨w.heap.size, 38, none⟩ = some (.slice H k h)) (by kernel_rfl) (HS.out _ D4.drew) (fun hS => ?_)
  refine hd_take 0 (_) rfl rfl (by kernel_rfl) (by kernel_rfl) (by kernel_rfl) (fun _ _ _ h => h) (fun w hw => by go_simp <;> rfl) hS ?_
  simp only [List.getElem_toArray, List.getElem_cons_succ, List.getElem_cons_zero, Act.put, List.setIfInBounds_toArray, List.set_cons_zero, List.set_cons_succ]
  refine hd_take 1 (.bool true) rfl rfl (by kernel_rfl) (by kernel_rfl) (by kernel_rfl) (fun _ _ _ h => h) (fun w hw => by have hx := hw.2.2.2.2.2.2.1; simp [go_sem, hx]) hS ?_
  simp only [List.getElem_toArray, List.getElem_cons_succ, List.getElem_cons_zero, Act.put, List.setIfInBounds_toArray, List.set_cons_zero, List.set_cons_succ]
  refine hd_take 2 (.bool false) rfl rfl (by kernel_rfl) (by kernel_rfl) (by kernel_rfl) (fun _ _ _ h => h) (fun w hw => by go_simp <;> rfl) hS ?_
  simp only [List.getElem_toArray, List.getElem_cons_succ, List.getElem_cons_zero, Act.put, List.setIfInBounds_toArray, List.set_cons_zero, List.set_cons_succ]
  refine hd_take 3 (_) rfl rfl (by kernel_rfl) (by kernel_rfl) (by kernel_rfl) (fun _ _ _ h => h) (fun w hw => by go_simp <;> rfl) hS ?_
  simp only [List.getElem_toArray, List.getElem_cons_succ, List.getElem_cons_zero, Act.put, List.setIfInBounds_toArray, List.set_cons_zero, List.set_cons_succ]
  refine hg_take 4 (_) rfl rfl (by kernel_rfl) (by kernel_rfl) (by kernel_rfl) (fun _ _ _ h => h) (fun w hw => by go_simp <;> rfl) hS ?_
  refine hg_take 7 (_) rfl rfl (by kernel_rfl) (by kernel_rfl) (by kernel_rfl) (fun _ _ _ h => h) (fun w hw => by go_simp <;> rfl) hS ?_
  simp only [List.getElem_toArray, List.getElem_cons_succ, List.getElem_cons_zero, Act.put, List.setIfInBounds_toArray, List.set_cons_zero, List.set_cons_succ]
  refine hg_take 5 (.slice H k h) rfl rfl (by kernel_rfl) (by kernel_rfl) (by kernel_rfl) (fun _ _ _ h => h) (fun w hw => by have hx := hw.2.2.2.2.2.2.2; simp [go_sem, hx]) hS ?_
  refine hg_take 8 (.slice Y n y) rfl rfl (by kernel_rfl) (by kernel_rfl) (by kernel_rfl) (fun _ _ _ h => h) (fun w hw => by have hx := hw.2.2.2.2.1; simp [go_sem, hx]) hS ?_
  simp only [List.getElem_toArray, List.getElem_cons_succ, List.getElem_cons_zero, Act.put, List.setIfInBounds_toArray, List.set_cons_zero, List.set_cons_succ]
  refine hg_take 6 (_) rfl rfl (by kernel_rfl) (by kernel_rfl) (by kernel_rfl) (fun _ _ _ h => h) (fun w hw => by go_simp <;> rfl) hS ?_
  refine hg_take 9 (_) rfl rfl (by kernel_rfl) (by kernel_rfl) (by kernel_rfl) (fun _ _ _ h => h) (fun w hw => by go_simp <;> rfl) hS ?_
  simp only [List.getElem_toArray, List.getElem_cons_succ, List.getElem_cons_zero, Act.put, List.setIfInBounds_toArray, List.set_cons_zero, List.set_cons_succ]
  have e1 : ((k : Int) == (n : Int)) = true := by simp; omega
  have HKN := Lib.hid hkn
  refine hg_take 10 (.bool false) rfl rfl (by kernel_rfl) (by kernel_rfl) (by kernel_rfl) (fun _ _ _ h => h) (fun w hw => by simp [go_sem, e1]) hS ?_
  simp only [List.getElem_toArray, List.getElem_cons_succ, List.getElem_cons_zero, Act.put, List.setIfInBounds_toArray, List.set_cons_zero, List.set_cons_succ]
  refine hd_take 11 (_) rfl rfl (by kernel_rfl) (by kernel_rfl) (by kernel_rfl) (fun _ _ _ h => h) (fun w hw => by go_simp <;> rfl) hS ?_
  simp only [List.getElem_toArray, List.getElem_cons_succ, List.getElem_cons_zero, Act.put, List.setIfInBounds_toArray, List.set_cons_zero, List.set_cons_succ]
  refine hd_take 12 (_) rfl rfl (by kernel_rfl) (by kernel_rfl) (by kernel_rfl) (fun _ _ _ h => h) (fun w hw => by go_simp <;> rfl) hS ?_
  simp only [List.getElem_toArray, List.getElem_cons_succ, List.getElem_cons_zero, Act.put, List.setIfInBounds_toArray, List.set_cons_zero, List.set_cons_succ]
  refine hg_take 13 (_) rfl rfl (by kernel_rfl) (by kernel_rfl) (by kernel_rfl) (fun _ _ _ h => h) (fun w hw => by go_simp <;> rfl) hS ?_
  simp only [List.getElem_toArray, List.getElem_cons_succ, List.getElem_cons_zero, Act.put, List.setIfInBounds_toArray, List.set_cons_zero, List.set_cons_succ]
  refine hg_take 14 (.slice H k h) rfl rfl (by kernel_rfl) (by kernel_rfl) (by kernel_rfl) (fun _ _ _ h => h) (fun w hw => by have hx := hw.2.2.2.2.2.2.2; simp [go_sem, hx]) hS ?_
  simp only [List.getElem_toArray, List.getElem_cons_succ, List.getElem_cons_zero, Act.put, List.setIfInBounds_toArray, List.set_cons_zero, List.set_cons_succ]
  refine hg_calls 15 33 #[.slice H k h] rfl rfl (by kernel_rfl) (by go_simp <;> rfl) ?_
  refine (HH.out _ (bel_on b0 D4.drew)).mono ?_
  rintro e w5 ⟨rfl, rfl⟩
  refine ⟨_, rfl, hS, ?_⟩
  simp only [List.getElem_toArray, List.getElem_cons_succ, List.getElem_cons_zero, Act.put, List.setIfInBounds_toArray, List.set_cons_zero, List.set_cons_succ]
  refine hg_take 16 (.bool false) rfl rfl (by kernel_rfl) (by kernel_rfl) (by kernel_rfl) (fun _ _ _ h => h) (fun w hw => by go_simp <;> rfl) hS ?_
  simp only [List.getElem_toArray, List.getElem_cons_succ, List.getElem_cons_zero, Act.put, List.setIfInBounds_toArray, List.set_cons_zero, List.set_cons_succ]
  refine hd_take 17 (_) rfl rfl (by kernel_rfl) (by kernel_rfl) (by kernel_rfl) (fun _ _ _ h => h) (fun w hw => by go_simp <;> rfl) hS ?_
  simp only [List.getElem_toArray, List.getElem_cons_succ, List.getElem_cons_zero, Act.put, List.setIfInBounds_toArray, List.set_cons_zero, List.set_cons_succ]
  refine hd_take 18 (_) rfl rfl (by kernel_rfl) (by kernel_rfl) (by kernel_rfl) (fun _ _ _ h => h) (fun w hw => by go_simp <;> rfl) hS ?_
  simp only [List.getElem_toArray, List.getElem_cons_succ, List.getElem_cons_zero, Act.put, List.setIfInBounds_toArray, List.set_cons_zero, List.set_cons_succ]
  refine hg_take 19 (_) rfl rfl (by kernel_rfl) (by kernel_rfl) (by kernel_rfl) (fun _ _ _ h => h) (fun w hw => by go_simp <;> rfl) hS ?_
  refine hg_take 21 (_) rfl rfl (by kernel_rfl) (by kernel_rfl) (by kernel_rfl) (fun _ _ _ h => h) (fun w hw => by go_simp <;> rfl) hS ?_
  refine hg_take 25 (_) rfl rfl (by kernel_rfl) (by kernel_rfl) (by kernel_rfl) (fun _ _ _ h => h) (fun w hw => by go_simp <;> rfl) hS ?_
  simp only [List.getElem_toArray, List.getElem_cons_succ, List.getElem_cons_zero, Act.put, List.setIfInBounds_toArray, List.set_cons_zero, List.set_cons_succ]
  refine hg_take 20 (.slice H k h) rfl rfl (by kernel_rfl) (by kernel_rfl) (by kernel_rfl) (fun _ _ _ h => h) (fun w hw => by have hx := hw.2.2.2.2.2.2.2; simp [go_sem, hx]) hS ?_
  refine hg_load 22 w.heap.size 39 (cellsB nonce) _ _ rfl rfl rfl (by kernel_rfl) (by kernel_rfl) (by kernel_rfl) (fun _ _ _ h => h) rfl (fun w hw => hw.2.2.2.1) under_key rfl (key_info HNN.out) hS ?_
  refine hg_load 26 w.heap.size 16 (cellsB com) _ _ rfl rfl rfl (by kernel_rfl) (by kernel_rfl) (by kernel_rfl) (fun _ _ _ h => h) rfl (fun w hw => hw.2.1) under_key rfl (key_info HC.out) hS ?_
  simp only [List.getElem_toArray, List.getElem_cons_succ, List.getElem_cons_zero, Act.put, List.setIfInBounds_toArray, List.set_cons_zero, List.set_cons_succ]
  refine hg_calls 23 64 #[.slice H k h, .agg (cellsB nonce).toArray] rfl rfl (by kernel_rfl) (by go_simp <;> rfl) ?_
  refine (HP'.out _ (bel_on b0 D4.drew)).mono ?_
  rintro e w6 ⟨⟨X, x, rfl, hX⟩, hb6⟩
  have D6 := bel_on D4.drew hb6
  have hS6 := HS.out _ D6
  refine ⟨_, rfl, hS6, ?_⟩
  simp only [List.getElem_toArray, List.getElem_cons_succ, List.getElem_cons_zero, Act.put, List.setIfInBounds_toArray, List.set_cons_zero, List.set_cons_succ]
  refine hg_calls 24 63 #[.slice X (k + 17) x] rfl rfl (by kernel_rfl) (by go_simp <;> rfl) ?_
  refine (HD'.out X x _ hX).mono ?_
  rintro e w7 ⟨rfl, hb7⟩
  have D7 := bel_on D6 hb7
  have hS7 := HS.out _ D7
  refine ⟨_, rfl, hS7, ?_⟩
  simp only [List.getElem_toArray, List.getElem_cons_succ, List.getElem_cons_zero, Act.put, List.setIfInBounds_toArray, List.set_cons_zero, List.set_cons_succ]
  refine hg_take 27 (.bool false) rfl rfl (by kernel_rfl) (by kernel_rfl) (by kernel_rfl) (fun _ _ _ h => h) (fun w hw => by have hx := equalIn_keys w dg com HDL HC; have hy := HOP.out; simp [go_sem, hx, hy]) hS7 ?_
  simp only [List.getElem_toArray, List.getElem_cons_succ, List.getElem_cons_zero, Act.put, List.setIfInBounds_toArray, List.set_cons_zero, List.set_cons_succ]
  refine hd_take 28 (_) rfl rfl (by kernel_rfl) (by kernel_rfl) (by kernel_rfl) (fun _ _ _ h => h) (fun w hw => by go_simp <;> rfl) hS7 ?_
  simp only [List.getElem_toArray, List.getElem_cons_succ, List.getElem_cons_zero, Act.put, List.setIfInBounds_toArray, List.set_cons_zero, List.set_cons_succ]
  refine wpAnyH_done (by kernel_rfl) (NoPanic.normal ?_) _
  clear hS hS6 hS7 hb6 hb7 hX HOP e1 hkn
  go_wp2_with fail
  refine wp_region_noPanic ?_
  refine wp_region_held_drew (S := fun w' => w'.rangeAt w.heap.size 0 (cellsB root) ∧ w'.rangeAt w.heap.size 16 (cellsB com) ∧ w'.rangeAt w.heap.size 32 [.int .i64 a, .int .i64 b, .slice A m c] ∧ w'.rangeAt w.heap.size 39 (cellsB nonce) ∧ w'.cell? ⟨w.heap.size, 35, none⟩ = some (.slice Y n y) ∧ w'.cell? ⟨w.heap.size, 36, none⟩ = some (.int .i64 need) ∧ w'.cell? ⟨w.heap.size, 37, none⟩ = some (.bool true) ∧ w'.cell? ⟨w.heap.size, 38, none⟩ = some (.slice H k h)) (by kernel_rfl) (HS.out _ D7.drew) (fun hS => ?_)
  refine hd_take 0 (_) rfl rfl (by kernel_rfl) (by kernel_rfl) (by kernel_rfl) (fun _ _ _ h => h) (fun w hw => by go_simp <;> rfl) hS ?_
  refine hd_take 2 (_) rfl rfl (by kernel_rfl) (by kernel_rfl) (by kernel_rfl) (fun _ _ _ h => h) (fun w hw => by go_simp <;> rfl) hS ?_
  refine hd_take 5 (_) rfl rfl (by kernel_rfl) (by kernel_rfl) (by kernel_rfl) (fun _ _ _ h => h) (fun w hw => by go_simp <;> rfl) hS ?_
  simp only [List.getElem_toArray, List.getElem_cons_succ, List.getElem_cons_zero, Act.put, List.setIfInBounds_toArray, List.set_cons_zero, List.set_cons_succ]
  refine hd_take 1 (.slice H k h) rfl rfl (by kernel_rfl) (by kernel_rfl) (by kernel_rfl) (fun _ _ _ h => h) (fun w hw => by have hx := hw.2.2.2.2.2.2.2; simp [go_sem, hx]) hS ?_
  refine hd_take 3 (.slice Y n y) rfl rfl (by kernel_rfl) (by kernel_rfl) (by kernel_rfl) (fun _ _ _ h => h) (fun w hw => by have hx := hw.2.2.2.2.1; simp [go_sem, hx]) hS ?_
  refine hd_take 6 (.int .i64 need) rfl rfl (by kernel_rfl) (by kernel_rfl) (by kernel_rfl) (fun _ _ _ h => h) (fun w hw => by have hx := hw.2.2.2.2.2.1; simp [go_sem, hx]) hS ?_
  simp only [List.getElem_toArray, List.getElem_cons_succ, List.getElem_cons_zero, Act.put, List.setIfInBounds_toArray, List.set_cons_zero, List.set_cons_succ]
  refine hd_calls 4 76 #[.slice H k h, .slice Y n y] rfl rfl (by kernel_rfl) (by go_simp <;> rfl) ?_
  refine (HA.out HKN.out HN1.out _ (bel_on b0 D7.drew)).mono ?_
  rintro e w8 ⟨rfl, hb8⟩
  have D8 := bel_on D7.drew hb8
  have hS8 := HS.out _ D8
  refine ⟨_, rfl, hS8, ?_⟩
  simp only [List.getElem_toArray, List.getElem_cons_succ, List.getElem_cons_zero, Act.put, List.setIfInBounds_toArray, List.set_cons_zero, List.set_cons_succ]
  rcases Bool.eq_false_or_eq_true (decide (need ≤ (z : Int))) with hz | hz
  · have ht : t3 = true := by rw [HAG.out, hz]
    subst ht
    refine hd_take 7 (.bool true) rfl rfl (by kernel_rfl) (by kernel_rfl) (by kernel_rfl) (fun _ _ _ h => h) (fun w hw => by simp [go_sem]; simpa using hz) hS8 ?_
    simp only [List.getElem_toArray, List.getElem_cons_succ, List.getElem_cons_zero, Act.put, List.setIfInBounds_toArray, List.set_cons_zero, List.set_cons_succ]
    refine wpAnyH_done (by kernel_rfl) (NoPanic.normal ?_) _
    clear hS hS8 hb8
    go_wp2_with fail
    go_ret2
    exact ⟨by first | rfl | simp, bel_on b0 D8⟩
  · have ht : t3 = false := by rw [HAG.out, hz]
    subst ht
    refine hd_take 7 (.bool false) rfl rfl (by kernel_rfl) (by kernel_rfl) (by kernel_rfl) (fun _ _ _ h => h) (fun w hw => by simp [go_sem]; simpa using hz) hS8 ?_
    simp only [List.getElem_toArray, List.getElem_cons_succ, List.getElem_cons_zero, Act.put, List.setIfInBounds_toArray, List.set_cons_zero, List.set_cons_succ]
    refine wpAnyH_done (by kernel_rfl) (NoPanic.normal ?_) _
    clear hS hS8 hb8
    go_wp2_with fail
    go_ret2
    exact ⟨by first | rfl | simp, bel_on b0 D8⟩
end Go.Proofs.YtinpiodfpnbllaaGreatDoor

/- The document's verdict on a case: joined. -/
namespace Go.Proofs.YtinpiodfpnbllaaGreatDoor
open Go.RowKit
set_option linter.unusedVariables false
set_option linter.unusedSimpArgs false


theorem refJudge_any (v : CV) (A : Option Addr) (m c : Nat) (Y : Option Addr) (n y : Nat) (H : Option Addr) (k h : Nat) (w : World) (g : CaseOK w v A m c Y n y H k h) :
    Calls Tryz.prog 24 #[.agg (caseC v A m c Y n y H k h).toArray] w fun e w' => e = .returned (.tuple #[.int .u8 (judgeS v).1, .int .i64 (judgeS v).2]) ∧ Below w.heap.size w w' := by
  have ho : opensB v = (v.op && (decide (k = n) && (halfB v.half 1 && (digS (openT v.half v.nonce) == v.com)))) := by unfold opensB; rw [g.hk, g.hn]
  cases hq : fitB v with
  | false => rw [judge_bad hq]; exact refJudge_bad v A m c Y n y H k h w g hq
  | true =>
    cases h1 : givesB v with
    | false => rw [judge_1 hq h1]; exact refJudge_void v A m c Y n y H k h w g hq h1
    | true =>
      cases hop : v.op with
      | false => rw [judge_2 hq h1 (by rw [ho, hop]; rfl)]; exact refJudge_shut v A m c Y n y H k h w g hq h1 hop
      | true =>
        by_cases hkn : k = n
        · cases hh : halfB v.half 1 with
          | false => rw [judge_2 hq h1 (by rw [ho, hh]; simp)]; exact refJudge_nohalf v A m c Y n y H k h w g hq h1 hop hkn hh
          | true =>
            cases hc : (digS (openT v.half v.nonce) == v.com) with
            | false => rw [judge_2 hq h1 (by rw [ho, hc]; simp)]; exact refJudge_other v A m c Y n y H k h w g hq h1 hop hkn hh hc
            | true =>
              have h2 : opensB v = true := by rw [ho, hop, hh, hc, decide_eq_true hkn]; rfl
              have := refJudge_last v A m c Y n y H k h w g hq h1 hop hkn hh hc
              cases h3 : agreesB v with
              | true => rw [judge_3 hq h1 h2 h3]; rw [h3] at this; exact this
              | false => rw [judge_4 hq h1 h2 h3]; rw [h3] at this; exact this
        · rw [judge_2 hq h1 (by rw [ho, decide_eq_false hkn]; simp)]; exact refJudge_long v A m c Y n y H k h w g hq h1 hop hkn
end Go.Proofs.YtinpiodfpnbllaaGreatDoor
