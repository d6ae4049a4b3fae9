/-
  Lemmas and contracts, joined: part 7.
-/
import Derived.Test.YtinpiodfpnbllaaGreatDoorRows
import Derived.ProofKit
import Derived.OpenShut
import Derived.LaidMore
import Derived.Deep.QuietTactic
import Derived.BigQuiet
import Derived.Test.YtinpiodfpnbllaaGreatDoorAuditJudgesB6
set_option linter.unusedSimpArgs false
set_option linter.unusedVariables false
set_option linter.unnecessarySimpa false
/- The verdict on a case. -/
namespace Go.Proofs.YtinpiodfpnbllaaGreatDoor
open Go.RowKit
set_option linter.unusedVariables false
set_option linter.unusedSimpArgs false

/-- The table of the tests. -/
def TestsIn (w : World) : Prop := w.rangeAt 0 0 [.int .u8 1, .func (.func 222) #[] #[], .int .u8 2, .func (.func 223) #[] #[], .int .u8 4, .func (.func 224) #[] #[]]
theorem fitB_iff {v : CV} : fitB v = true ↔ halfB v.cp 2 = true ∧ 1 ≤ v.need ∧ v.need ≤ (v.cp.length : Int) ∧ fitsB v.a v.b v.P.length = true := by simp [fitB]
theorem judge_bad {v : CV} (h : fitB v = false) : judgeS v = (0, 8) := by unfold judgeS; rw [if_pos h]
theorem judge_1 {v : CV} (h : fitB v = true) (h1 : givesB v = false) : judgeS v = (1, 0) := by unfold judgeS; rw [if_neg (by rw [h]; simp), if_pos h1]
theorem judge_2 {v : CV} (h : fitB v = true) (h1 : givesB v = true) (h2 : opensB v = false) : judgeS v = (2, 0) := by unfold judgeS; rw [if_neg (by rw [h]; simp), if_neg (by rw [h1]; simp), if_pos h2]
theorem judge_3 {v : CV} (h : fitB v = true) (h1 : givesB v = true) (h2 : opensB v = true) (h3 : agreesB v = true) : judgeS v = (3, 0) := by unfold judgeS; rw [if_neg (by rw [h]; simp), if_neg (by rw [h1]; simp), if_neg (by rw [h2]; simp), if_pos h3]
theorem judge_4 {v : CV} (h : fitB v = true) (h1 : givesB v = true) (h2 : opensB v = true) (h3 : agreesB v = false) : judgeS v = (4, 0) := by unfold judgeS; rw [if_neg (by rw [h]; simp), if_neg (by rw [h1]; simp), if_neg (by rw [h2]; simp), if_neg (by rw [h3]; simp)]
theorem opens_same {v : CV} (h : opensB v = true) : v.half.length = v.cp.length := by
  unfold opensB at h
  simp only [Bool.and_eq_true, decide_eq_true_eq] at h
  exact h.2.1

set_option maxHeartbeats 8000000 in
set_option maxRecDepth 100000 in
theorem Judge_any (v : CV) (A : Option Addr) (m c : Nat) (Y : Option Addr) (n y : Nat) (H : Option Addr) (k h : Nat) (w : World) (g : CaseOK w v A m c Y n y H k h) (hT : TestsIn w) :
    Calls Tryz.prog 23 #[.agg (caseC v A m c Y n y H k h).toArray] w fun e w' => e = .returned (.tuple #[.int .u8 (judgeS v).1, .int .i64 (judgeS v).2]) ∧ Below w.heap.size w w' := by
  have b0 := alloc_bel w (.cells (caseC v A m c Y n y H k h).toArray 29)
  have B0 := Blk.new w 29 (caseC v A m c Y n y H k h).toArray
  have HBX : Hid (∀ W, Below (w.alloc (.cells (caseC v A m c Y n y H k h).toArray 29)).heap.size (w.alloc (.cells (caseC v A m c Y n y H k h).toArray 29)) W → Box W w.heap.size v A m c Y n y H k h) := fun W hW => box_of (B0.below' hW) g.r16 g.c16 g.n16
  have HBK : Hid (∀ W, Below (w.alloc (.cells (caseC v A m c Y n y H k h).toArray 29)).heap.size (w.alloc (.cells (caseC v A m c Y n y H k h).toArray 29)) W → Blk W w.heap.size 29 (caseC v A m c Y n y H k h).toArray) := fun W hW => B0.below' hW
  have HCI := Lib.hid (case_info (v := v) (A := A) (m := m) (c := c) (Y := Y) (n := n) (y := y) (H := H) (k := k) (h := h) g.r16 g.c16 g.n16)
  have D0 : Below (w.alloc (.cells (caseC v A m c Y n y H k h).toArray 29)).heap.size (w.alloc (.cells (caseC v A m c Y n y H k h).toArray 29)) (w.alloc (.cells (caseC v A m c Y n y H k h).toArray 29)) := Below.refl _ _
  have hnl := g.cp.len
  have hml := g.P.len
  have hni : (n : Int) ≤ 140737488351232 := by rw [g.hn] at hnl; omega
  have HTW : Hid (∀ W, Below w.heap.size w W → W.rangeAt 0 0 [.int .u8 1, .func (.func 222) #[] #[], .int .u8 2, .func (.func 223) #[] #[], .int .u8 4, .func (.func 224) #[] #[]]) := fun W hW => range_below hT hW
  have HSY : Hid (∀ W, Below w.heap.size w W → Calls Tryz.prog 61 #[.slice Y n y, .int .u8 2] W fun e w' => e = .returned (.bool (halfB v.cp 2)) ∧ W = w') := fun W hW => auditSyms_any Y y v.cp 2 W g.hn (g.cp.below hW) (by omega)
  have HF : Hid (∀ W, Calls Tryz.prog 73 #[.agg #[.int .i64 v.a, .int .i64 v.b, .slice A m c]] W fun e w' => e = .returned (.bool (fitsB v.a v.b m)) ∧ Below W.heap.size W w') := fun W => fits_any v.a v.b A m c W (by rw [← g.hm]; exact hml)
  have HFI : Hid (fitB v = true ↔ halfB v.cp 2 = true ∧ 1 ≤ v.need ∧ v.need ≤ (n : Int) ∧ fitsB v.a v.b m = true) := by unfold Hid; rw [fitB_iff, g.hn, g.hm]
  have HJ0 := Lib.hid (@judge_bad v)
  have HJ1 := Lib.hid (@judge_1 v)
  have HJ2 := Lib.hid (@judge_2 v)
  have HJ3 := Lib.hid (@judge_3 v)
  have HJ4 := Lib.hid (@judge_4 v)
  have HO := Lib.hid (@opens_same v)
  have HC1 : Hid (fitsB v.a v.b m = true → ∀ W, Below w.heap.size w W → Calls Tryz.prog 222 #[.agg (caseC v A m c Y n y H k h).toArray] W fun e w' => e = .returned (.bool (givesB v)) ∧ Below W.heap.size W w') := fun hf W hW => test1_any v A m c Y n y H k h W (g.below hW) hf
  have HC2 : Hid (∀ W, Below w.heap.size w W → Calls Tryz.prog 223 #[.agg (caseC v A m c Y n y H k h).toArray] W fun e w' => e = .returned (.bool (opensB v)) ∧ Below W.heap.size W w') := fun W hW => test2_any v A m c Y n y H k h W (g.below hW)
  have HC3 : Hid (opensB v = true → 1 ≤ n → ∀ W, Below w.heap.size w W → Calls Tryz.prog 224 #[.agg (caseC v A m c Y n y H k h).toArray] W fun e w' => e = .returned (.bool (agreesB v)) ∧ Below W.heap.size W w') := fun ho h1 W hW => test3_any v A m c Y n y H k h W (g.below hW) (by rw [← g.hk, ← g.hn]; exact HO.out ho) h1
  clear HO
  generalize judgeS v = J at HJ0 HJ1 HJ2 HJ3 HJ4 ⊢
  generalize givesB v = t1 at HJ1 HJ2 HJ3 HJ4 HC1
  generalize opensB v = t2 at HJ2 HJ3 HJ4 HC2 HC3
  generalize agreesB v = t3 at HJ3 HJ4 HC3
  generalize fitB v = q at HFI HJ0 HJ1 HJ2 HJ3 HJ4
  generalize halfB v.cp 2 = s at HSY HFI
  generalize fitsB v.a v.b m = f at HF HFI HC1
  generalize caseC v A m c Y n y H k h = cs at HBX HBK HCI b0 D0 HC1 HC2 HC3 ⊢
  obtain ⟨W0, hW0⟩ : ∃ W, W = w.alloc (.cells cs.toArray 29) := ⟨_, rfl⟩
  rw [← hW0] at HBX HBK b0 D0
  have HW0 := Lib.hid hW0
  obtain ⟨root, com, a, b, P, cp, need, op, half, nonce⟩ := v
  dsimp only at HF HFI
  have k35 : W0.cell? ⟨w.heap.size, 35, none⟩ = some (.slice Y n y) := (HBX.out _ D0).c35
  have k36 : W0.cell? ⟨w.heap.size, 36, none⟩ = some (.int .i64 need) := (HBX.out _ D0).c36
  have k32 : W0.cell? ⟨w.heap.size, 32, none⟩ = some (.int .i64 a) := (HBX.out _ D0).pr 0 _ rfl
  have k33 : W0.cell? ⟨w.heap.size, 33, none⟩ = some (.int .i64 b) := (HBX.out _ D0).pr 1 _ rfl
  have k34 : W0.cell? ⟨w.heap.size, 34, none⟩ = some (.slice A m c) := (HBX.out _ D0).pr 2 _ rfl
  clear g hnl hml hT hW0 B0 HBX
  have ways : s = false ∨ (s = true ∧ need < 1) ∨ (s = true ∧ 1 ≤ need ∧ (n : Int) < need) ∨ (s = true ∧ 1 ≤ need ∧ need ≤ (n : Int) ∧ f = false) ∨ (s = true ∧ 1 ≤ need ∧ need ≤ (n : Int) ∧ f = true) := by
    cases s <;> cases f <;> simp <;> omega
  rcases ways with rfl | ⟨rfl, h1⟩ | ⟨rfl, h1, h2⟩ | ⟨rfl, h1, h2, rfl⟩ | ⟨rfl, h1, h2, rfl⟩
  · have HJ : Hid (J = (0, 8)) := HJ0.out (by cases q with | false => rfl | true => have := HFI.out.1 rfl; simp at this; try omega)
    clear HJ0 HJ1 HJ2 HJ3 HJ4 HC1 HC2 HC3 HFI 
    go_enter Tryz.func23, Tryz.ntmps23
    go_wp2_with (first
    | (go_at_call 61; (first | rw [← HW0.out] | skip); refine (HSY.out _ b0).mono ?_; rintro e w1 ⟨rfl, rfl⟩)
    | (go_at_call 73; refine (HF.out _).mono ?_; rintro e w1 ⟨rfl, hb1⟩; have D1 := bel_on D0 hb1; clear hb1)
    | rw [← HW0.out])
    go_ret2
    exact ⟨by rw [HJ.out]; first | rfl | simp, bel_on b0 D0⟩
  · have HJ : Hid (J = (0, 8)) := HJ0.out (by cases q with | false => rfl | true => have := HFI.out.1 rfl; simp at this; try omega)
    have s1 : decide (need < 1) = true := by simp; omega
    clear HJ0 HJ1 HJ2 HJ3 HJ4 HC1 HC2 HC3 HFI h1
    go_enter Tryz.func23, Tryz.ntmps23
    go_wp2_with (first
    | (go_at_call 61; (first | rw [← HW0.out] | skip); refine (HSY.out _ b0).mono ?_; rintro e w1 ⟨rfl, rfl⟩)
    | (go_at_call 73; refine (HF.out _).mono ?_; rintro e w1 ⟨rfl, hb1⟩; have D1 := bel_on D0 hb1; clear hb1)
    | rw [← HW0.out])
    go_ret2
    exact ⟨by rw [HJ.out]; first | rfl | simp, bel_on b0 D0⟩
  · have HJ : Hid (J = (0, 8)) := HJ0.out (by cases q with | false => rfl | true => have := HFI.out.1 rfl; simp at this; try omega)
    have s1 : decide (need < 1) = false := by simp; omega
    have s2 : decide ((n : Int) < need) = true := by simp; omega
    clear HJ0 HJ1 HJ2 HJ3 HJ4 HC1 HC2 HC3 HFI h1 h2
    go_enter Tryz.func23, Tryz.ntmps23
    go_wp2_with (first
    | (go_at_call 61; (first | rw [← HW0.out] | skip); refine (HSY.out _ b0).mono ?_; rintro e w1 ⟨rfl, rfl⟩)
    | (go_at_call 73; refine (HF.out _).mono ?_; rintro e w1 ⟨rfl, hb1⟩; have D1 := bel_on D0 hb1; clear hb1)
    | rw [← HW0.out])
    go_ret2
    exact ⟨by rw [HJ.out]; first | rfl | simp, bel_on b0 D0⟩
  · have HJ : Hid (J = (0, 8)) := HJ0.out (by cases q with | false => rfl | true => have := HFI.out.1 rfl; simp at this; try omega)
    have s1 : decide (need < 1) = false := by simp; omega
    have s2 : decide ((n : Int) < need) = false := by simp; omega
    clear HJ0 HJ1 HJ2 HJ3 HJ4 HC1 HC2 HC3 HFI h1 h2
    go_enter Tryz.func23, Tryz.ntmps23
    go_wp2_with (first
    | (go_at_call 61; (first | rw [← HW0.out] | skip); refine (HSY.out _ b0).mono ?_; rintro e w1 ⟨rfl, rfl⟩)
    | (go_at_call 73; refine (HF.out _).mono ?_; rintro e w1 ⟨rfl, hb1⟩; have D1 := bel_on D0 hb1; clear hb1)
    | rw [← HW0.out])
    go_ret2
    exact ⟨by rw [HJ.out]; first | rfl | simp, bel_on b0 D1⟩
  · have hq : q = true := HFI.out.2 ⟨rfl, h1, h2, rfl⟩
    subst hq
    have s1 : decide (need < 1) = false := by simp; omega
    have s2 : decide ((n : Int) < need) = false := by simp; omega
    have HC1' := Lib.hid (HC1.out rfl)
    have HC3' : Hid (t2 = true → ∀ W, Below w.heap.size w W → Calls Tryz.prog 224 #[.agg cs.toArray] W fun e w' => e = .returned (.bool t3) ∧ Below W.heap.size W w') := fun ht => HC3.out ht (by omega)
    have hix0 : ∀ W, (Instr.index 130 (.agg #[.int .u8 1, .func (.func 222) #[] #[], .int .u8 2, .func (.func 223) #[] #[], .int .u8 4, .func (.func 224) #[] #[]]) (.int .i64 0)).run Tryz.prog W = .ok (.agg #[.int .u8 1, .func (.func 222) #[] #[]]) W := fun _ => by kernel_rfl
    have hix1 : ∀ W, (Instr.index 130 (.agg #[.int .u8 1, .func (.func 222) #[] #[], .int .u8 2, .func (.func 223) #[] #[], .int .u8 4, .func (.func 224) #[] #[]]) (.int .i64 1)).run Tryz.prog W = .ok (.agg #[.int .u8 2, .func (.func 223) #[] #[]]) W := fun _ => by kernel_rfl
    have hix2 : ∀ W, (Instr.index 130 (.agg #[.int .u8 1, .func (.func 222) #[] #[], .int .u8 2, .func (.func 223) #[] #[], .int .u8 4, .func (.func 224) #[] #[]]) (.int .i64 2)).run Tryz.prog W = .ok (.agg #[.int .u8 4, .func (.func 224) #[] #[]]) W := fun _ => by kernel_rfl
    clear HJ0 HC1 HC3 HFI h1 h2
    go_enter Tryz.func23, Tryz.ntmps23
    go_wp2_with (first
    | (go_at_call 61; (first | rw [← HW0.out] | skip); refine (HSY.out _ b0).mono ?_; rintro e w1 ⟨rfl, rfl⟩)
    | (go_at_call 73; refine (HF.out _).mono ?_; rintro e w1 ⟨rfl, hb1⟩; have D1 := bel_on D0 hb1; clear hb1)
    | rw [← HW0.out]
    | (refine wpList_load_mid rfl 130 (.global 0) rfl 0 0 rfl [.int .u8 1, .func (.func 222) #[] #[], .int .u8 2, .func (.func 223) #[] #[], .int .u8 4, .func (.func 224) #[] #[]] _ (HTW.out _ (bel_on b0 D1)) Tryz.underlying130 rfl (by kernel_rfl) ?_))
    go_loopw [30] (fun vi wr => ((vi = .int .i64 0) ∨ (vi = .int .i64 1 ∧ Hid (t1 = true)) ∨ (vi = .int .i64 2 ∧ Hid (t1 = true) ∧ Hid (t2 = true)) ∨ (vi = .int .i64 3 ∧ Hid (t1 = true) ∧ Hid (t2 = true) ∧ Hid (t3 = true))) ∧ Below W0.heap.size W0 wr) (fun vi _ => 3 - (intOf vi).toNat)
    case atStart => exact ⟨.inl rfl, D1⟩
    case round =>
      obtain ⟨hrel, DW⟩ := hrel
      rcases hrel with rfl | ⟨rfl, T1⟩ | ⟨rfl, T1, T2⟩ | ⟨rfl, T1, T2, T3⟩
      · cases t1 with
        | false =>
          have HJ := Lib.hid (HJ1.out (by simp) (by simp))
          clear HJ1 HJ2 HJ3 HJ4
          go_wp2_with (first
            | (refine wpList_store_row rfl 129 (.tmp 5) (.tmp 32) rfl wr.heap.size #[.int .u8 1, .func (.func 222) #[] #[]] rfl rfl 129 #[.int .u8 0, .nilFunc] (Blk.new wr _ _) (by kernel_rfl) rfl (by simp [Value.oneCell']) ?_; obtain ⟨W2, hW2⟩ : ∃ W, W = (wr.alloc (.cells #[.int .u8 0, .nilFunc] 129)).setRow wr.heap.size #[.int .u8 1, .func (.func 222) #[] #[]] := ⟨_, rfl⟩; rw [← hW2]; have B2 : Blk W2 wr.heap.size 129 #[.int .u8 1, .func (.func 222) #[] #[]] := (by rw [hW2]; exact (Blk.new wr _ _).setRow _); have DW2 : Below W0.heap.size W0 W2 := (by rw [hW2]; exact below_setRow (bel_on DW (alloc_bel wr _)) DW.size _); have c1 : W2.cell? ⟨wr.heap.size, 1, none⟩ = some (.func (.func 222) #[] #[]) := B2.cell 1; clear hW2)
            | (refine wpList_load_row rfl 29 (.tmp 1) rfl w.heap.size rfl 29 cs.toArray (0, 0) _ (HBK.out _ DW2) Tryz.underlying29 rfl HCI.out ?_)
            | (go_at_call 222; refine (HC1'.out _ (bel_on b0 DW2)).mono ?_; rintro e w2 ⟨rfl, hb2⟩; have D2 := bel_on DW2 hb2; have c0 : w2.cell? ⟨wr.heap.size, 0, none⟩ = some (.int .u8 1) := (B2.below' hb2).cell 0; clear hb2))
          go_ret2
          exact ⟨by rw [HJ.out]; first | rfl | simp, bel_on b0 D2⟩
        | true =>
          go_wp2_with (first
            | (refine wpList_store_row rfl 129 (.tmp 5) (.tmp 32) rfl wr.heap.size #[.int .u8 1, .func (.func 222) #[] #[]] rfl rfl 129 #[.int .u8 0, .nilFunc] (Blk.new wr _ _) (by kernel_rfl) rfl (by simp [Value.oneCell']) ?_; obtain ⟨W2, hW2⟩ : ∃ W, W = (wr.alloc (.cells #[.int .u8 0, .nilFunc] 129)).setRow wr.heap.size #[.int .u8 1, .func (.func 222) #[] #[]] := ⟨_, rfl⟩; rw [← hW2]; have B2 : Blk W2 wr.heap.size 129 #[.int .u8 1, .func (.func 222) #[] #[]] := (by rw [hW2]; exact (Blk.new wr _ _).setRow _); have DW2 : Below W0.heap.size W0 W2 := (by rw [hW2]; exact below_setRow (bel_on DW (alloc_bel wr _)) DW.size _); have c1 : W2.cell? ⟨wr.heap.size, 1, none⟩ = some (.func (.func 222) #[] #[]) := B2.cell 1; clear hW2)
            | (refine wpList_load_row rfl 29 (.tmp 1) rfl w.heap.size rfl 29 cs.toArray (0, 0) _ (HBK.out _ DW2) Tryz.underlying29 rfl HCI.out ?_)
            | (go_at_call 222; refine (HC1'.out _ (bel_on b0 DW2)).mono ?_; rintro e w2 ⟨rfl, hb2⟩; have D2 := bel_on DW2 hb2; have c0 : w2.cell? ⟨wr.heap.size, 0, none⟩ = some (.int .u8 1) := (B2.below' hb2).cell 0; clear hb2))
          go_roundw
          case rel => exact ⟨.inr (.inl ⟨rfl, Lib.hid (by simp)⟩), D2⟩
          case measure => simp [intOf]
      · cases t2 with
        | false =>
          have HJ := Lib.hid (HJ2.out (by simp) T1.out (by simp))
          clear HJ1 HJ2 HJ3 HJ4
          go_wp2_with (first
            | (refine wpList_store_row rfl 129 (.tmp 5) (.tmp 32) rfl wr.heap.size #[.int .u8 2, .func (.func 223) #[] #[]] rfl rfl 129 #[.int .u8 0, .nilFunc] (Blk.new wr _ _) (by kernel_rfl) rfl (by simp [Value.oneCell']) ?_; obtain ⟨W2, hW2⟩ : ∃ W, W = (wr.alloc (.cells #[.int .u8 0, .nilFunc] 129)).setRow wr.heap.size #[.int .u8 2, .func (.func 223) #[] #[]] := ⟨_, rfl⟩; rw [← hW2]; have B2 : Blk W2 wr.heap.size 129 #[.int .u8 2, .func (.func 223) #[] #[]] := (by rw [hW2]; exact (Blk.new wr _ _).setRow _); have DW2 : Below W0.heap.size W0 W2 := (by rw [hW2]; exact below_setRow (bel_on DW (alloc_bel wr _)) DW.size _); have c1 : W2.cell? ⟨wr.heap.size, 1, none⟩ = some (.func (.func 223) #[] #[]) := B2.cell 1; clear hW2)
            | (refine wpList_load_row rfl 29 (.tmp 1) rfl w.heap.size rfl 29 cs.toArray (0, 0) _ (HBK.out _ DW2) Tryz.underlying29 rfl HCI.out ?_)
            | (go_at_call 223; refine (HC2.out _ (bel_on b0 DW2)).mono ?_; rintro e w2 ⟨rfl, hb2⟩; have D2 := bel_on DW2 hb2; have c0 : w2.cell? ⟨wr.heap.size, 0, none⟩ = some (.int .u8 2) := (B2.below' hb2).cell 0; clear hb2))
          go_ret2
          exact ⟨by rw [HJ.out]; first | rfl | simp, bel_on b0 D2⟩
        | true =>
          go_wp2_with (first
            | (refine wpList_store_row rfl 129 (.tmp 5) (.tmp 32) rfl wr.heap.size #[.int .u8 2, .func (.func 223) #[] #[]] rfl rfl 129 #[.int .u8 0, .nilFunc] (Blk.new wr _ _) (by kernel_rfl) rfl (by simp [Value.oneCell']) ?_; obtain ⟨W2, hW2⟩ : ∃ W, W = (wr.alloc (.cells #[.int .u8 0, .nilFunc] 129)).setRow wr.heap.size #[.int .u8 2, .func (.func 223) #[] #[]] := ⟨_, rfl⟩; rw [← hW2]; have B2 : Blk W2 wr.heap.size 129 #[.int .u8 2, .func (.func 223) #[] #[]] := (by rw [hW2]; exact (Blk.new wr _ _).setRow _); have DW2 : Below W0.heap.size W0 W2 := (by rw [hW2]; exact below_setRow (bel_on DW (alloc_bel wr _)) DW.size _); have c1 : W2.cell? ⟨wr.heap.size, 1, none⟩ = some (.func (.func 223) #[] #[]) := B2.cell 1; clear hW2)
            | (refine wpList_load_row rfl 29 (.tmp 1) rfl w.heap.size rfl 29 cs.toArray (0, 0) _ (HBK.out _ DW2) Tryz.underlying29 rfl HCI.out ?_)
            | (go_at_call 223; refine (HC2.out _ (bel_on b0 DW2)).mono ?_; rintro e w2 ⟨rfl, hb2⟩; have D2 := bel_on DW2 hb2; have c0 : w2.cell? ⟨wr.heap.size, 0, none⟩ = some (.int .u8 2) := (B2.below' hb2).cell 0; clear hb2))
          go_roundw
          case rel => exact ⟨.inr (.inr (.inl ⟨rfl, T1, Lib.hid (by simp)⟩)), D2⟩
          case measure => simp [intOf]
      · cases t3 with
        | false =>
          have HJ := Lib.hid (HJ4.out (by simp) T1.out T2.out (by simp))
          clear HJ1 HJ2 HJ3 HJ4
          go_wp2_with (first
            | (refine wpList_store_row rfl 129 (.tmp 5) (.tmp 32) rfl wr.heap.size #[.int .u8 4, .func (.func 224) #[] #[]] rfl rfl 129 #[.int .u8 0, .nilFunc] (Blk.new wr _ _) (by kernel_rfl) rfl (by simp [Value.oneCell']) ?_; obtain ⟨W2, hW2⟩ : ∃ W, W = (wr.alloc (.cells #[.int .u8 0, .nilFunc] 129)).setRow wr.heap.size #[.int .u8 4, .func (.func 224) #[] #[]] := ⟨_, rfl⟩; rw [← hW2]; have B2 : Blk W2 wr.heap.size 129 #[.int .u8 4, .func (.func 224) #[] #[]] := (by rw [hW2]; exact (Blk.new wr _ _).setRow _); have DW2 : Below W0.heap.size W0 W2 := (by rw [hW2]; exact below_setRow (bel_on DW (alloc_bel wr _)) DW.size _); have c1 : W2.cell? ⟨wr.heap.size, 1, none⟩ = some (.func (.func 224) #[] #[]) := B2.cell 1; clear hW2)
            | (refine wpList_load_row rfl 29 (.tmp 1) rfl w.heap.size rfl 29 cs.toArray (0, 0) _ (HBK.out _ DW2) Tryz.underlying29 rfl HCI.out ?_)
            | (go_at_call 224; refine (HC3'.out T2.out _ (bel_on b0 DW2)).mono ?_; rintro e w2 ⟨rfl, hb2⟩; have D2 := bel_on DW2 hb2; have c0 : w2.cell? ⟨wr.heap.size, 0, none⟩ = some (.int .u8 4) := (B2.below' hb2).cell 0; clear hb2))
          go_ret2
          exact ⟨by rw [HJ.out]; first | rfl | simp, bel_on b0 D2⟩
        | true =>
          go_wp2_with (first
            | (refine wpList_store_row rfl 129 (.tmp 5) (.tmp 32) rfl wr.heap.size #[.int .u8 4, .func (.func 224) #[] #[]] rfl rfl 129 #[.int .u8 0, .nilFunc] (Blk.new wr _ _) (by kernel_rfl) rfl (by simp [Value.oneCell']) ?_; obtain ⟨W2, hW2⟩ : ∃ W, W = (wr.alloc (.cells #[.int .u8 0, .nilFunc] 129)).setRow wr.heap.size #[.int .u8 4, .func (.func 224) #[] #[]] := ⟨_, rfl⟩; rw [← hW2]; have B2 : Blk W2 wr.heap.size 129 #[.int .u8 4, .func (.func 224) #[] #[]] := (by rw [hW2]; exact (Blk.new wr _ _).setRow _); have DW2 : Below W0.heap.size W0 W2 := (by rw [hW2]; exact below_setRow (bel_on DW (alloc_bel wr _)) DW.size _); have c1 : W2.cell? ⟨wr.heap.size, 1, none⟩ = some (.func (.func 224) #[] #[]) := B2.cell 1; clear hW2)
            | (refine wpList_load_row rfl 29 (.tmp 1) rfl w.heap.size rfl 29 cs.toArray (0, 0) _ (HBK.out _ DW2) Tryz.underlying29 rfl HCI.out ?_)
            | (go_at_call 224; refine (HC3'.out T2.out _ (bel_on b0 DW2)).mono ?_; rintro e w2 ⟨rfl, hb2⟩; have D2 := bel_on DW2 hb2; have c0 : w2.cell? ⟨wr.heap.size, 0, none⟩ = some (.int .u8 4) := (B2.below' hb2).cell 0; clear hb2))
          go_roundw
          case rel => exact ⟨.inr (.inr (.inr ⟨rfl, T1, T2, Lib.hid (by simp)⟩)), D2⟩
          case measure => simp [intOf]
      · have HJ := Lib.hid (HJ3.out (by simp) T1.out T2.out T3.out)
        clear HJ1 HJ2 HJ3 HJ4
        go_wp2_with fail
        go_ret2
        exact ⟨by rw [HJ.out]; first | rfl | simp, bel_on b0 DW⟩
end Go.Proofs.YtinpiodfpnbllaaGreatDoor

/- What the rows' condition on the table of the tests says of the memory. -/
namespace Go.Proofs.YtinpiodfpnbllaaGreatDoor
open Go.ChangeShapes Go.WideShapes Go.ChangeAt Go.RowKit
set_option linter.unusedVariables false

theorem test_of_trod {W : World} {fuel : Nat} {cs : List Value} {k : Int} {b : UInt8} {r : List UInt8} {q : List MemPlace} {f0 : FuncId}
    (hone : ((List.range Tryz.prog.funcs.size).filter fun f => (Tryz.prog.funcs[f]?).any (·.name.toUTF8.data.toList == b :: r)) = [f0])
    (h : DataW.trod (funcToken Tryz.prog) Tryz.prog W 0 (fun _ => true) true fuel 129 cs = some (.agg [.lit (.int .u8 k), .held (b :: r)], q)) : cs = [.int .u8 k, .func (.func f0) #[] #[]] := by
  obtain ⟨y0, y1, n, hx, hl, h0, h1⟩ := trod_struct2 Tryz.underlying129 h
  dsimp only at h0 h1
  rw [show Tryz.prog.cellsOf 129 = 2 from by kernel_rfl] at hl
  have cu : Tryz.prog.cellsOf 5 = 1 := by kernel_rfl
  have cf : Tryz.prog.cellsOf 127 = 1 := by kernel_rfl
  rw [cu] at h0
  rw [cf] at h1
  obtain ⟨y1d, y1p⟩ := y1
  obtain ⟨x, e0, ey, _⟩ := DataW.trod_int Tryz.underlying5 h0
  subst ey
  simp only [Prod.mk.injEq, DataW.agg.injEq, List.cons.injEq, and_true, DataW.lit.injEq, Lit.int.injEq, true_and] at hx
  obtain ⟨⟨hk, hy⟩, _⟩ := hx
  subst hk hy
  match cs, hl with
  | [u, v], _ =>
    simp only [List.drop_zero, List.take_succ_cons, List.take_zero, List.drop_succ_cons, List.cons.injEq, and_true] at e0 h1
    have := func_of_trod (f0 := f0) Tryz.underlying127 hone h1
    rw [e0, this]
theorem gTests : Tryz.prog.globalNamed "headend/audit.tests" = some 0 := by kernel_rfl
theorem tTests : (Tryz.prog.globals[0]?).map (·.type) = some 130 := by kernel_rfl
/-- The row's condition gives the walks their table. -/
theorem of_laid {W : World} (h : laidMetH Tryz.prog [("headend/audit.tests", Rows.laid_headend_audit_tests)] W) : TestsIn W := by
  obtain ⟨g, t, cs, fuel, p, hg, ht, hv, hd⟩ := h.funcs (List.mem_singleton.2 rfl)
  obtain rfl := Option.some.inj (gTests.symm.trans hg)
  obtain rfl := Option.some.inj (tTests.symm.trans ht)
  have hd' : DataW.trod (funcToken Tryz.prog) Tryz.prog W 0 (fun _ => true) true fuel 130 cs.toList = some (.agg [.agg [.lit (.int .u8 1), .held [104, 101, 97, 100, 101, 110, 100, 47, 97, 117, 100, 105, 116, 46, 116, 101, 115, 116, 115, 36, 49]], .agg [.lit (.int .u8 2), .held [104, 101, 97, 100, 101, 110, 100, 47, 97, 117, 100, 105, 116, 46, 116, 101, 115, 116, 115, 36, 50]], .agg [.lit (.int .u8 4), .held [104, 101, 97, 100, 101, 110, 100, 47, 97, 117, 100, 105, 116, 46, 116, 101, 115, 116, 115, 36, 51]]], p) := hd
  obtain ⟨xs, m, _, hx, hl, hn, hel⟩ := DataW.trod_array Tryz.underlying130 hd'
  rw [show Tryz.prog.cellsOf 130 = 6 from by kernel_rfl] at hl
  have ct : Tryz.prog.cellsOf 129 = 2 := by kernel_rfl
  rw [ct] at hel
  have e0 := hel 0 (by omega)
  have e1 := hel 1 (by omega)
  have e2 := hel 2 (by omega)
  have hcs : cs.toList = [.int .u8 1, .func (.func 222) #[] #[], .int .u8 2, .func (.func 223) #[] #[], .int .u8 4, .func (.func 224) #[] #[]] := by
    match xs, hn with
    | [x0, x1, x2], _ =>
      obtain ⟨x0d, x0p⟩ := x0
      obtain ⟨x1d, x1p⟩ := x1
      obtain ⟨x2d, x2p⟩ := x2
      simp only [List.map_cons, List.map_nil, Prod.mk.injEq, DataW.agg.injEq, List.cons.injEq, and_true] at hx
      obtain ⟨⟨h0, h1, h2⟩, _⟩ := hx
      subst h0 h1 h2
      have t0 := test_of_trod (f0 := 222) (by kernel_rfl) e0
      have t1 := test_of_trod (f0 := 223) (by kernel_rfl) e1
      have t2 := test_of_trod (f0 := 224) (by kernel_rfl) e2
      match hcl : cs.toList, hl with
      | [c0, c1, c2, c3, c4, c5], _ =>
        rw [hcl] at t0 t1 t2
        simp only [Nat.zero_mul, Nat.one_mul, List.drop_zero, List.take_succ_cons, List.take_zero, List.drop_succ_cons, List.cons.injEq, and_true] at t0 t1 t2
        rw [t0.1, t0.2, t1.1, t1.2, t2.1, t2.2]
  intro i v hi
  have := World.var?_cell hg hv i
  rw [Nat.zero_add, this, ← Array.getElem?_toList, hcs]
  exact hi
end Go.Proofs.YtinpiodfpnbllaaGreatDoor

/- The texts of a list: the reference's. -/
namespace Go.Proofs.YtinpiodfpnbllaaGreatDoor
open Go.RowKit
set_option linter.unusedVariables false
set_option linter.unusedSimpArgs false

section
variable {md : Region.Mode} {ops : Array Oper} {Q : Exit → Act → World → Prop} {S : World → Prop} {fuel : Nat} {listed : Array Bool} {a : Act} {w : World}
/-- append to rows that the call owns, the only operation that may come up. -/
theorem hd_appendR (i : Nat) {oi : Oper} (s x : Operand) (hi : ops[i]? = some oi) (ho : oi.op = .call { callee := .builtin .append, args := #[s, x], argTypes := #[71, 71] }) (hg : oi.guard = none) (hr : Region.ready md ops listed = [i])
    (B : Nat) (A : Option Addr) (n c : Nat) (rs : List BRow) (hn : rs.length = n) (hs : a.eval s = .slice A n c) (hown : RO B w A c rs)
    (X : Option Addr) (m d : Nat) (news : List BRow) (hm : news.length = m) (hx : a.eval x = .slice X m d) (hsrc : Src w 1 X m (news.map BRow.v)) (hlen : n + m ≤ 1000000) (hB : B ≤ w.heap.size)
    (h : ∀ A' c' w', RO B w' A' c' (rs ++ news) → Below B w w' → w.grownBy w' (Value.ownBlock (.slice A n c)) → S w' ∧ wpAnyH Tryz.prog md ops Q S fuel (listed.setIfInBounds i true) (a.put oi.dst (.slice A' (n + m) c')) w') : wpAnyH Tryz.prog md ops Q S (fuel + 1) listed a w := by
  obtain ⟨i0, hi0, hz0, hz1, hz2⟩ := info_parts rows_info
  subst hn hm
  obtain ⟨A', c', w', hrun, h2, h3, h4⟩ := run_append_src (P := Tryz.prog) w B 71 oi.type 22 i0 (.slice none 0 0) 1 24 Tryz.underlying71 hi0 hz0 hz1 hz2 rfl (by omega) A rs.length c (rs.map BRow.v) hown X news.length d (news.map BRow.v) hsrc (by intro u hu; obtain ⟨r, _, rfl⟩ := List.mem_map.1 hu; rfl) (by simp only [maxLen]; omega) (by omega) hB
  refine hd_one i hi hg hr ?_
  refine Lib.wp_append_run w s x 71 71 ho _ _ hs hx _ w' hrun ?_
  refine h A' c' w' ?_ (grown_below (Below.refl _ _) hown h3 hB (Nat.le_refl _)) h3
  unfold RO
  rw [List.map_append, List.length_append]
  exact h2
end
/-- Texts that the call owns. -/
def TO (B : Nat) (w : World) (A : Option Addr) (c : Nat) (rs : List BRow) (ts : List (List UInt8)) : Prop := rs.map BRow.l = ts ∧ RO B w A c rs ∧ ∀ r ∈ rs, OB B w r.A r.c r.l
theorem TO.below {B : Nat} {w w' : World} {A : Option Addr} {c : Nat} {rs : List BRow} {ts : List (List UInt8)} (h : TO B w A c rs ts) (hb : Below w.heap.size w w') : TO B w' A c rs ts := ⟨h.1, h.2.1.below hb, fun r hr => (h.2.2 r hr).below hb⟩
theorem RO.le_ {B B' : Nat} {w : World} {A : Option Addr} {c : Nat} {rs : List BRow} (h : RO B w A c rs) (hB : B' ≤ B) : RO B' w A c rs :=
  ⟨h.1, h.2.elim Or.inl (fun ⟨g, cap, cur, hv, hg, r⟩ => Or.inr ⟨g, cap, cur, hv, Nat.le_trans hB hg, r⟩)⟩
theorem TO.le_ {B B' : Nat} {w : World} {A : Option Addr} {c : Nat} {rs : List BRow} {ts : List (List UInt8)} (h : TO B w A c rs ts) (hB : B' ≤ B) : TO B' w A c rs ts := ⟨h.1, h.2.1.le_ hB, fun r hr => (h.2.2 r hr).le_ hB⟩
theorem TO.len {B : Nat} {w : World} {A : Option Addr} {c : Nat} {rs : List BRow} {ts : List (List UInt8)} (h : TO B w A c rs ts) : rs.length = ts.length := by rw [← h.1, List.length_map]
theorem TO.rr {B : Nat} {w : World} {A : Option Addr} {c : Nat} {rs : List BRow} {ts : List (List UInt8)} (h : TO B w A c rs ts) (hl : ts.length ≤ 100000) (hb : ∀ t ∈ ts, t.length ≤ 1000) : RR w A c rs :=
  h.2.1.rr (by rw [h.len]; omega) fun r hr => (h.2.2 r hr).br (by have := hb r.l (by rw [← h.1]; exact List.mem_map.2 ⟨r, hr, rfl⟩); omega)
theorem RO.lit (B : Nat) (w : World) (r : BRow) (hB : B ≤ w.heap.size) : RO B (w.alloc (.cells #[r.v] 22)) (some ⟨w.heap.size, 0, none⟩) 1 [r] := by
  have h := World.ownsRow_lit (e := 22) (size := 1) w #[r.v] 1 hB (by simp [maxLen]) (by simp)
  unfold RO
  simpa using h
theorem textsS_short : ∀ (n : Nat) (l : List (List UInt8)), l.length = n → (∀ k ∈ l, k.length = 16) → ∀ t ∈ textsS l, t.length ≤ 1000 := by
  intro n
  induction n using Nat.strongRecOn with
  | _ n ih =>
    intro l hl hk t ht
    rcases Nat.lt_or_ge n 2 with h2 | h2
    · rcases Nat.lt_or_ge n 1 with h1 | h1
      · rw [List.eq_nil_of_length_eq_zero (show l.length = 0 by omega), textsS_nil, List.mem_singleton] at ht
        subst ht; simp
      · obtain ⟨x, rfl⟩ := List.length_eq_one_iff.1 (show l.length = 1 by omega)
        rw [textsS_one, List.mem_singleton] at ht
        subst ht
        have := hk x (by simp)
        simp [leafT, this]
    have s1 := splitS_lt h2
    have s2 := splitS_pos n
    rw [textsS_node (by omega), hl] at ht
    rcases List.mem_append.1 ht with ht | ht
    · exact ih (splitS n) s1 _ (by rw [List.length_take]; omega) (fun k h => hk k (List.mem_of_mem_take h)) t ht
    · rcases List.mem_append.1 ht with ht | ht
      · exact ih (n - splitS n) (by omega) _ (by rw [List.length_drop]; omega) (fun k h => hk k (List.mem_of_mem_drop h)) t ht
      · rw [List.mem_singleton.1 ht]
        simp [nodeT, rootS_length]

end Go.Proofs.YtinpiodfpnbllaaGreatDoor

/- Which proofs and growths fit: the reference's test. -/
namespace Go.Proofs.YtinpiodfpnbllaaGreatDoor
open Go.RowKit
set_option linter.unusedVariables false
set_option linter.unusedSimpArgs false

theorem stepsS_le : ∀ (n i : Nat), stepsS n i ≤ n := by
  intro n
  induction n using Nat.strongRecOn with
  | _ n ih =>
    intro i
    rcases Nat.lt_or_ge n 2 with h2 | h2
    · rw [stepsS_one (by omega)]; omega
    have s1 := splitS_lt h2
    have s2 := splitS_pos n
    by_cases hi : i < splitS n
    · rw [stepsS_low h2 hi]; have := ih (splitS n) s1 i; omega
    · rw [stepsS_high h2 hi]; have := ih (n - splitS n) (by omega) (i - splitS n); omega
theorem partsS_le : ∀ (n m : Nat) (wh : Bool), partsS n m wh ≤ n + 1 := by
  intro n
  induction n using Nat.strongRecOn with
  | _ n ih =>
    intro m wh
    rw [partsS]
    split
    · split <;> omega
    · rename_i h
      have s1 := splitS_lt (n := n) (by omega)
      have s2 := splitS_pos n
      dsimp only
      split
      · have := ih (splitS n) s1 m wh; omega
      · have := ih (n - splitS n) (by omega) (m - splitS n) false; omega

set_option maxHeartbeats 1000000 in
theorem refSteps_any (n : Nat) : ∀ (i : Nat) (w : World), 1 ≤ n → n ≤ 1000 → i < n →
    Calls Tryz.prog 137 #[.int .i64 (n : Int), .int .i64 (i : Int)] w fun e w' => e = .returned (.int .i64 ((stepsS n i : Nat) : Int)) ∧ w = w' := by
  induction n using Nat.strongRecOn with
  | _ n ih =>
    intro i w h1 hbig hi
    rcases Nat.lt_or_ge n 2 with h2 | h2
    · obtain rfl : n = 1 := by omega
      rw [stepsS_one (by omega)]
      clear ih
      go_enter Tryz.func137, Tryz.ntmps137
      go_wp2
      go_ret
      exact ⟨rfl, rfl⟩
    have s1 := splitS_lt h2
    have s2 := splitS_pos n
    have hni : (2 : Int) ≤ (n : Int) := by omega
    have hnb : (n : Int) ≤ 1000 := by omega
    have hne1 : ¬ (n : Int) = 1 := by omega
    have HSP : Hid (∀ W, Calls Tryz.prog 180 #[.int .i64 (n : Int)] W fun e w' => e = .returned (.int .i64 ((splitS n : Nat) : Int)) ∧ W = w') := fun W => refSplit_any n W h2 (by omega)
    by_cases hk : i < splitS n
    · have hki : (i : Int) < ((splitS n : Nat) : Int) := by omega
      have HST : Hid (stepsS n i = 1 + stepsS (splitS n) i) := stepsS_low h2 hk
      have HC : Hid (∀ W, Calls Tryz.prog 137 #[.int .i64 ((splitS n : Nat) : Int), .int .i64 (i : Int)] W fun e w' => e = .returned (.int .i64 ((stepsS (splitS n) i : Nat) : Int)) ∧ W = w') := fun W => ih (splitS n) s1 i W s2 (by omega) hk
      have hle := stepsS_le (splitS n) i
      generalize stepsS (splitS n) i = r at HST HC hle
      have hri : (r : Int) ≤ 1000 := by omega
      generalize splitS n = k at *
      clear ih hle hi hk
      go_enter Tryz.func137, Tryz.ntmps137
      go_wp2_with (first
        | (go_at_call 180; refine (HSP.out _).mono ?_; rintro e w1 ⟨rfl, rfl⟩)
        | (go_at_call 137; refine (HC.out _).mono ?_; rintro e w1 ⟨rfl, rfl⟩))
      go_ret
      exact ⟨by rw [HST.out]; go_num, rfl⟩
    · have hki : ¬ (i : Int) < ((splitS n : Nat) : Int) := by omega
      have hki2 : ((splitS n : Nat) : Int) ≤ (i : Int) := by omega
      have hkn : ((splitS n : Nat) : Int) < (n : Int) := by omega
      have hib : (i : Int) < (n : Int) := by omega
      have HST : Hid (stepsS n i = 1 + stepsS (n - splitS n) (i - splitS n)) := stepsS_high h2 hk
      have HC : Hid (∀ W, Calls Tryz.prog 137 #[.int .i64 ((n : Int) - ((splitS n : Nat) : Int)), .int .i64 ((i : Int) - ((splitS n : Nat) : Int))] W fun e w' => e = .returned (.int .i64 ((stepsS (n - splitS n) (i - splitS n) : Nat) : Int)) ∧ W = w') := fun W => by
        rw [show (n : Int) - ((splitS n : Nat) : Int) = ((n - splitS n : Nat) : Int) from by omega, show (i : Int) - ((splitS n : Nat) : Int) = ((i - splitS n : Nat) : Int) from by omega]
        exact ih (n - splitS n) (by omega) (i - splitS n) W (by omega) (by omega) (by omega)
      have hle := stepsS_le (n - splitS n) (i - splitS n)
      generalize stepsS (n - splitS n) (i - splitS n) = r at HST HC hle
      have hri : (r : Int) ≤ 1000 := by omega
      generalize splitS n = k at *
      clear ih hle hi hk
      go_enter Tryz.func137, Tryz.ntmps137
      go_wp2_with (first
        | (go_at_call 180; refine (HSP.out _).mono ?_; rintro e w1 ⟨rfl, rfl⟩)
        | (go_at_call 137; refine (HC.out _).mono ?_; rintro e w1 ⟨rfl, rfl⟩))
      go_ret
      exact ⟨by rw [HST.out]; go_num, rfl⟩

set_option maxHeartbeats 2000000 in
set_option maxRecDepth 100000 in
theorem refFits_any (a b : Int) (A : Option Addr) (n c : Nat) (w : World) (hn : n ≤ 140737488351232) :
    Calls Tryz.prog 74 #[.agg (prC a b A n c).toArray] w fun e w' => e = .returned (.bool (fitsB a b n)) ∧ Below w.heap.size w w' := by
  have b0 := alloc_bel w (.cells #[.int .i64 a, .int .i64 b, .slice A n c] 27)
  have hni : (n : Int) ≤ 140737488351232 := by omega
  have c0 : (w.alloc (.cells #[.int .i64 a, .int .i64 b, .slice A n c] 27)).cell? ⟨w.heap.size, 0, none⟩ = some (.int .i64 a) := (Blk.new w _ _).cell 0
  have c1 : (w.alloc (.cells #[.int .i64 a, .int .i64 b, .slice A n c] 27)).cell? ⟨w.heap.size, 1, none⟩ = some (.int .i64 b) := (Blk.new w _ _).cell 1
  have c2 : (w.alloc (.cells #[.int .i64 a, .int .i64 b, .slice A n c] 27)).cell? ⟨w.heap.size, 2, none⟩ = some (.slice A n c) := (Blk.new w _ _).cell 2
  have C0 := Lib.hid c0
  have C1 := Lib.hid c1
  have C2 := Lib.hid c2
  clear c0 c1 c2
  unfold prC
  rcases (by omega : a < 1 ∨ (1 ≤ a ∧ 128 < a) ∨ (1 ≤ a ∧ a ≤ 128 ∧ b < 0) ∨ (1 ≤ a ∧ a ≤ 128 ∧ 0 ≤ b ∧ a ≤ b) ∨ (1 ≤ a ∧ a ≤ 128 ∧ 0 ≤ b ∧ b < a)) with h | ⟨h1, h2⟩ | ⟨h1, h2, h3⟩ | ⟨h1, h2, h3, h4⟩ | ⟨h1, h2, h3, h4⟩
  · have HF : Hid (fitsB a b n = false) := fitsB_no (by omega)
    have s0 : decide ((1 : Int) ≤ a) = false := by simp; omega
    clear hn
    go_enter Tryz.func74, Tryz.ntmps74
    go_wp2_with fail
    generalize w.alloc (.cells #[.int .i64 a, .int .i64 b, .slice A n c] 27) = W0 at C0 C1 C2 b0 ⊢
    have c0 := C0.out
    have c1 := C1.out
    have c2 := C2.out
    clear C0 C1 C2
    go_quiet (fail)
    go_wp2_with fail
    go_ret
    exact ⟨by rw [HF.out]; rfl, below_drewN b0 _⟩
  · have HF : Hid (fitsB a b n = false) := fitsB_no (by omega)
    have s0 : decide ((1 : Int) ≤ a) = true := by simp; omega
    have s1 : decide (a ≤ 128) = false := by simp; omega
    clear hn
    go_enter Tryz.func74, Tryz.ntmps74
    go_wp2_with fail
    generalize w.alloc (.cells #[.int .i64 a, .int .i64 b, .slice A n c] 27) = W0 at C0 C1 C2 b0 ⊢
    have c0 := C0.out
    have c1 := C1.out
    have c2 := C2.out
    clear C0 C1 C2
    go_quiet (fail)
    go_wp2_with fail
    go_ret
    exact ⟨by rw [HF.out]; rfl, below_drewN b0 _⟩
  · have HF : Hid (fitsB a b n = false) := fitsB_no (by omega)
    have s0 : decide ((1 : Int) ≤ a) = true := by simp; omega
    have s1 : decide (a ≤ 128) = true := by simp; omega
    have s2 : decide ((0 : Int) ≤ b) = false := by simp; omega
    clear hn
    go_enter Tryz.func74, Tryz.ntmps74
    go_wp2_with fail
    generalize w.alloc (.cells #[.int .i64 a, .int .i64 b, .slice A n c] 27) = W0 at C0 C1 C2 b0 ⊢
    have c0 := C0.out
    have c1 := C1.out
    have c2 := C2.out
    clear C0 C1 C2
    go_quiet (fail)
    go_wp2_with fail
    go_ret
    exact ⟨by rw [HF.out]; rfl, below_drewN b0 _⟩
  · have HF : Hid (fitsB a b n = false) := fitsB_no (by omega)
    have s0 : decide ((1 : Int) ≤ a) = true := by simp; omega
    have s1 : decide (a ≤ 128) = true := by simp; omega
    have s2 : decide ((0 : Int) ≤ b) = true := by simp; omega
    have s3 : decide (b < a) = false := by simp; omega
    clear hn
    go_enter Tryz.func74, Tryz.ntmps74
    go_wp2_with fail
    generalize w.alloc (.cells #[.int .i64 a, .int .i64 b, .slice A n c] 27) = W0 at C0 C1 C2 b0 ⊢
    have c0 := C0.out
    have c1 := C1.out
    have c2 := C2.out
    clear C0 C1 C2
    go_quiet (fail)
    go_wp2_with fail
    go_ret
    exact ⟨by rw [HF.out]; rfl, below_drewN b0 _⟩
  · have HF0 : fitsB a b n = decide (n = stepsS a.toNat b.toNat) := fitsB_in (by omega)
    obtain ⟨p, rfl⟩ : ∃ p : Nat, a = (p : Int) := ⟨a.toNat, by omega⟩
    obtain ⟨q, rfl⟩ : ∃ q : Nat, b = (q : Int) := ⟨b.toNat, by omega⟩
    rw [Int.toNat_natCast, Int.toNat_natCast] at HF0
    have HC : Hid (∀ W, Calls Tryz.prog 137 #[.int .i64 (p : Int), .int .i64 (q : Int)] W fun e w' => e = .returned (.int .i64 ((stepsS p q : Nat) : Int)) ∧ W = w') := fun W => refSteps_any p q W (by omega) (by omega) (by omega)
    have hle := stepsS_le p q
    generalize stepsS p q = T at HF0 HC hle
    have hTi : (T : Int) ≤ 1001 := by omega
    have s0 : decide ((1 : Int) ≤ (p : Int)) = true := by simp; omega
    have s1 : decide ((p : Int) ≤ 128) = true := by simp; omega
    have s2 : decide ((0 : Int) ≤ (q : Int)) = true := by simp
    have s3 : decide (q < p) = true := by simp; omega
    have s4 : decide ((q : Int) < (p : Int)) = true := by simp; omega
    by_cases he : n = T
    · have HF : Hid (fitsB (p : Int) (q : Int) n = true) := by unfold Hid; rw [HF0, decide_eq_true he]
      subst he
      clear HF0 hn hle
      go_enter Tryz.func74, Tryz.ntmps74
      go_wp2_with fail
      generalize w.alloc (.cells #[.int .i64 (p : Int), .int .i64 (q : Int), .slice A n c] 27) = W0 at C0 C1 C2 b0 ⊢
      have c0 := C0.out
      have c1 := C1.out
      have c2 := C2.out
      clear C0 C1 C2
      go_quiet ((go_at_call 137; exact quiet_left' (HC.out _)))
      go_wp2_with fail
      go_ret
      exact ⟨by rw [HF.out]; rfl, below_drewN b0 _⟩
    · have HF : Hid (fitsB (p : Int) (q : Int) n = false) := by unfold Hid; rw [HF0, decide_eq_false he]
      have hei : ((n : Int) == (T : Int)) = false := by rw [beq_eq_false_iff_ne]; omega
      have hei2 : (n == T) = false := by rw [beq_eq_false_iff_ne]; omega
      clear HF0 hn hle he
      go_enter Tryz.func74, Tryz.ntmps74
      go_wp2_with fail
      generalize w.alloc (.cells #[.int .i64 (p : Int), .int .i64 (q : Int), .slice A n c] 27) = W0 at C0 C1 C2 b0 ⊢
      have c0 := C0.out
      have c1 := C1.out
      have c2 := C2.out
      clear C0 C1 C2
      go_quiet ((go_at_call 137; exact quiet_left' (HC.out _)))
      go_wp2_with fail
      go_ret
      exact ⟨by rw [HF.out]; rfl, below_drewN b0 _⟩

end Go.Proofs.YtinpiodfpnbllaaGreatDoor

/- The root that a path gives: the reference's. -/
namespace Go.Proofs.YtinpiodfpnbllaaGreatDoor
open Go.RowKit
set_option linter.unusedVariables false
set_option linter.unusedSimpArgs false
attribute [local go_sem] run_storeCells_key run_storeCells_new

theorem TO.row {B : Nat} {w : World} {A : Option Addr} {c : Nat} {rs : List BRow} {ts : List (List UInt8)} (h : TO B w A c rs ts) {g : Nat} {cs : Array Value} (hb : Blk w g 24 cs) (cs' : Array Value) : TO B (w.setRow g cs') A c rs ts :=
  ⟨h.1, own_row_apart h.2.1 hb (by decide) cs', fun r hr => own_row_apart (h.2.2 r hr) hb (by decide) cs'⟩
theorem TO.snoc {B : Nat} {w w' : World} {A A' : Option Addr} {c c' : Nat} {rs : List BRow} {ts : List (List UInt8)} (h : TO B w A c rs ts) {X : Option Addr} {d : Nat} {t : List UInt8} (ho : OB B w X d t) (h' : RO B w' A' c' (rs ++ [⟨X, d, t⟩])) (hg : w.grownBy w' (Value.ownBlock (.slice A rs.length c))) : TO B w' A' c' (rs ++ [⟨X, d, t⟩]) (ts ++ [t]) :=
  ⟨by rw [List.map_append, h.1]; rfl, h', fun r hr => by
    rcases List.mem_append.1 hr with hr | hr
    · exact own_kept (h.2.2 r hr) h.2.1 (by decide) hg
    · rw [List.mem_singleton.1 hr]; exact own_kept ho h.2.1 (by decide) hg⟩

set_option maxHeartbeats 2000000 in
set_option maxRecDepth 100000 in
theorem refGiven_one (i : Nat) (leaf : List UInt8) (hl : leaf.length = 16) (path : List (List UInt8)) (m : Nat) (A : Option Addr) (c : Nat) (w : World) :
    Calls Tryz.prog 138 #[.agg (cellsB leaf).toArray, .int .i64 1, .int .i64 (i : Int), .slice A m c] w fun e w' => (∃ X x rs, e = .returned (.tuple #[.agg (cellsB (climbS leaf 1 i path).1).toArray, .slice X rs.length x]) ∧ TO w.heap.size w' X x rs (climbS leaf 1 i path).2) ∧ Below w.heap.size w w' := by
  rw [climbS_one _ (by omega)]
  have HZ := Lib.hid zero16
  have HK := Lib.hid hl
  have b0 := alloc2_bel w (.cells (cellsB leaf).toArray 24) (.cells (cellsB zeroK).toArray 24)
  have B0 := Lib.hid (blk_b0 w (cellsB leaf).toArray 24 (.cells (cellsB zeroK).toArray 24))
  have B1 := Lib.hid (blk_b1 w (.cells (cellsB leaf).toArray 24) (cellsB zeroK).toArray 24)
  have HLT : Hid (∀ W, Calls Tryz.prog 181 #[.agg (cellsB leaf).toArray] W fun e w' => (∃ A c, e = .returned (.slice A 17 c) ∧ OB W.heap.size w' A c (leafT leaf)) ∧ Below W.heap.size W w') := fun W => refLeafText_any leaf W hl
  have HLL : Hid ((leafT leaf).length = 17) := by unfold Hid leafT; simp [hl]
  dsimp only
  generalize leafT leaf = t at HLT HLL ⊢
  have HD : Hid (∀ X d W, BR W X d t → Calls Tryz.prog 63 #[.slice X 17 d] W fun e w' => e = .returned (.agg (cellsB (digS t)).toArray) ∧ Below W.heap.size W w') := fun X d W h => refDigest_any t X d W HLL.out h (by omega)
  have HDL : Hid ((digS t).length = 16) := digS_length _
  generalize digS t = dg at HDL HD ⊢
  have hdc : (cellsB dg).length = 16 := by rw [cellsB_length, HDL.out]
  have hall := all16 dg
  clear hl
  go_enter Tryz.func138, Tryz.ntmps138
  go_wp2_with (first
    | (refine wpList_load_row rfl 24 (.tmp 4) rfl w.heap.size rfl 24 (cellsB leaf).toArray (0, 0) _ (by rw [HZ.out]; exact B0.out) under_key rfl (cellsB_size _ HK.out) ?_)
    | (go_at_call 181; rw [HZ.out]; refine (HLT.out _).mono ?_; rintro e w1 ⟨⟨A1, c1, rfl, ho1⟩, hb1⟩; have b1 := bel_on b0 hb1; have O1 := Lib.hid ho1; have Q1 := Lib.hid (B1.out.below' hb1); clear ho1 hb1)
    | (go_at_call 63; refine (HD.out _ _ _ (O1.out.br (by rw [HLL.out]; omega))).mono ?_; rintro e w2 ⟨rfl, hb2⟩; have O2 := Lib.hid ((O1.out.below hb2).below (alloc_bel w2 (.cells #[.slice A1 17 c1] 22))); have Q2 := (Q1.out.below' hb2).alloc (.cells #[.slice A1 17 c1] 22); have b2 := bel_on (bel_on b1 hb2) (alloc_bel w2 (.cells #[.slice A1 17 c1] 22)); have hr2 : (rowAt (w2.alloc (.cells #[.slice A1 17 c1] 22)) (w.heap.size + 1)).size = 16 := (by rw [Q2.row]; rfl); have hf2 := Q2.free; have HQ2 := Lib.hid Q2; have hz2 : w.heap.size ≤ w2.heap.size := (bel_on b1 hb2).size; clear Q2 hb2))
  refine bodyPost_ret (v := .tuple #[.agg (cellsB dg).toArray, .slice (some ⟨w2.heap.size, 0, none⟩) 1 1]) ?_ rfl ⟨⟨some ⟨w2.heap.size, 0, none⟩, 1, [⟨A1, c1, t⟩], rfl, TO.row ⟨rfl, ?_, fun r hr => ?_⟩ HQ2.out _⟩, below_setRow b2 (by omega) _⟩
  · rw [results_cell_tmp Tryz.results138]
    simp [asAddr, Result.andThen, run_loadVar_row _ (w.heap.size + 1) _ _ _ (0, 0) _ (HQ2.out.setRow (cellsB dg).toArray) under_key rfl (cellsB_size _ HDL.out)]
  · have := RO.lit w.heap.size w2 ⟨A1, c1, t⟩ hz2
    simpa only [BRow.v, HLL.out] using this
  · rw [List.mem_singleton.1 hr]
    exact O2.out.le_ b0.size

set_option maxHeartbeats 4000000 in
set_option maxRecDepth 100000 in
theorem refGiven_any (leaf : List UInt8) (hl : leaf.length = 16) (n : Nat) : ∀ (i : Nat) (path : List (List UInt8)) (A : Option Addr) (c : Nat) (w : World), 1 ≤ n → n ≤ 1000 → i < n → path.length = stepsS n i → KR w A c path →
    Calls Tryz.prog 138 #[.agg (cellsB leaf).toArray, .int .i64 (n : Int), .int .i64 (i : Int), .slice A path.length c] w fun e w' => (∃ X x rs, e = .returned (.tuple #[.agg (cellsB (climbS leaf n i path).1).toArray, .slice X rs.length x]) ∧ TO w.heap.size w' X x rs (climbS leaf n i path).2) ∧ Below w.heap.size w w' := by
  induction n using Nat.strongRecOn with
  | _ n ih =>
    intro i path A c w h1n hbig hin hp h
    rcases Nat.lt_or_ge n 2 with h2 | h2
    · obtain rfl : n = 1 := by omega
      exact refGiven_one i leaf hl path path.length A c w
    have hs1 := splitS_pos n
    have hs2 := splitS_lt h2
    have hni : (2 : Int) ≤ (n : Int) := by omega
    have hnb : (n : Int) ≤ 1000 := by omega
    have hib : (i : Int) < (n : Int) := by omega
    have hne1 : ¬ (n : Int) = 1 := by omega
    have hcl := Rd.le h.1
    have hcap := Rd.len h.1
    have HSP : Hid (∀ W, Calls Tryz.prog 180 #[.int .i64 (n : Int)] W fun e w' => e = .returned (.int .i64 ((splitS n : Nat) : Int)) ∧ W = w') := fun W => refSplit_any n W h2 (by omega)
    have b0 := alloc2_bel w (.cells (cellsB leaf).toArray 24) (.cells (cellsB zeroK).toArray 24)
    have B0 := Lib.hid (blk_b0 w (cellsB leaf).toArray 24 (.cells (cellsB zeroK).toArray 24))
    have B1 := Lib.hid (blk_b1 w (.cells (cellsB leaf).toArray 24) (cellsB zeroK).toArray 24)
    have HZ := Lib.hid zero16
    have HK := Lib.hid hl
    by_cases hk : i < splitS n
    · have hki : (i : Int) < ((splitS n : Nat) : Int) := by omega
      obtain ⟨m, hm⟩ : ∃ m, path.length = m + 1 := ⟨path.length - 1, by rw [hp, stepsS_low h2 hk]; omega⟩
      rw [climbS_low _ _ h2 hk]
      have hql := climbS_length leaf (splitS n) (i) (initK path)
      have hqn := climbS_le leaf (splitS n) (i) (initK path) (by omega)
      have HC : Hid (∀ W, Below w.heap.size w W → Calls Tryz.prog 138 #[.agg (cellsB leaf).toArray, .int .i64 ((splitS n : Nat) : Int), .int .i64 (i : Int), .slice A m c] W fun e w' => (∃ X x rs, e = .returned (.tuple #[.agg (cellsB (climbS leaf (splitS n) i (initK path)).1).toArray, .slice X rs.length x]) ∧ TO W.heap.size w' X x rs (climbS leaf (splitS n) i (initK path)).2) ∧ Below W.heap.size W w') := fun W hW => by
        have hlen : m = (initK path).length := by rw [initK_length, hm]; omega
        rw [hlen]
        exact ih (splitS n) hs2 i (initK path) _ c W hs1 (by omega) hk (by rw [initK_length, hp, stepsS_low h2 hk]; omega) (h.below hW).init
      obtain ⟨b, off, rfl, hb, hr, hhl⟩ := h.lastAt hm
      have HR : Hid (∀ W, Below w.heap.size w W → W.rangeAt b (off + m * 16) (cellsB (lastK path))) := fun W hW => range_below hr hW
      have HH := Lib.hid hhl
      have hmi : (m : Int) ≤ 140737488351232 := by omega
      have hmc : m ≤ c := by omega
      have hmlt : (m : Int) < (m : Int) + 1 := by omega
      have hsl := fun W => slice_keys_to W (some ⟨b, off, none⟩) (m + 1) c m hmc
      have hwm : IntKind.i64.wrap ((m : Nat) : Int) = (m : Int) := by rw [IntKind.wrap_i64]; omega
      generalize climbS leaf (splitS n) i (initK path) = r at HC hql hqn ⊢
      obtain ⟨q, x⟩ := r
      dsimp only at HC hql hqn ⊢
      generalize lastK path = h0 at HR HH ⊢
      rw [hm]
      generalize splitS n = k at *
      have HQL := Lib.hid hql
      have HQN : Hid (x.length ≤ 1000) := by unfold Hid; omega
      have HNT : Hid (∀ W, Calls Tryz.prog 182 #[.agg (cellsB q).toArray, .agg (cellsB h0).toArray] W fun e w' => (∃ A c, e = .returned (.slice A 33 c) ∧ OB W.heap.size w' A c (nodeT q h0)) ∧ Below W.heap.size W w') := fun W => refNodeText_any q h0 W (by first | exact hql | exact HH.out) (by first | exact HH.out | exact hql)
      have HNL : Hid ((nodeT q h0).length = 33) := by unfold Hid nodeT; simp [hql, HH.out]
      generalize nodeT q h0 = t at HNT HNL ⊢
      have HD : Hid (∀ X d W, BR W X d t → Calls Tryz.prog 63 #[.slice X 33 d] W fun e w' => e = .returned (.agg (cellsB (digS t)).toArray) ∧ Below W.heap.size W w') := fun X d W h => refDigest_any t X d W HNL.out h (by omega)
      have HDL : Hid ((digS t).length = 16) := digS_length _
      generalize digS t = dg at HDL HD ⊢
      have hdc : (cellsB dg).length = 16 := by rw [cellsB_length, HDL.out]
      have hall := all16 dg
      have hqc : (cellsB q).length = 16 := by rw [cellsB_length, hql]
      have hqa := all16 q
      have HBW : Hid (b < w.heap.size) := hb
      clear ih h hp hm hr hhl hb hl hql hqn
      go_enter Tryz.func138, Tryz.ntmps138
      go_wp2_with (go_at_call 180; rw [HZ.out]; refine (HSP.out _).mono ?_; rintro e w1 ⟨rfl, rfl⟩)
      obtain ⟨W0, hW0⟩ : ∃ W : World, W = (w.alloc (.cells (cellsB leaf).toArray 24)).alloc (.cells (cellsB zeroK).toArray 24) := ⟨_, rfl⟩
      have hz0 : W0.heap.size = w.heap.size + 1 + 1 := by rw [hW0]; simp
      rw [← hW0] at b0 B0 B1 ⊢
      clear hW0
      refine wp_region_noPanic ?_
      have bw : Below w.heap.size w W0.drew := b0.drew
      refine wp_region_held_drew (S := fun w' => w'.rangeAt b (off + m * 16) (cellsB h0)) (by kernel_rfl) (HR.out _ bw) (fun hS => ?_)
      refine hd_take 0 (_) rfl rfl (by kernel_rfl) (by kernel_rfl) (by kernel_rfl) (fun _ _ _ h => h) (fun w _ => by go_simp <;> rfl) hS ?_
      refine hd_take 1 (_) rfl rfl (by kernel_rfl) (by kernel_rfl) (by kernel_rfl) (fun _ _ _ h => h) (fun w _ => by go_simp <;> rfl) hS ?_
      refine hd_take 5 (_) rfl rfl (by kernel_rfl) (by kernel_rfl) (by kernel_rfl) (fun _ _ _ h => h) (fun w _ => by go_simp <;> rfl) hS ?_
      refine hd_take 6 (_) rfl rfl (by kernel_rfl) (by kernel_rfl) (by kernel_rfl) (fun _ _ _ h => h) (fun w _ => by go_simp <;> rfl) hS ?_
      simp only [List.getElem_toArray, List.getElem_cons_succ, List.getElem_cons_zero, Act.put, List.setIfInBounds_toArray, List.set_cons_zero, List.set_cons_succ]
      refine hd_take 2 (_) rfl rfl (by kernel_rfl) (by kernel_rfl) (by kernel_rfl) (fun _ _ _ h => h) (fun w _ => by go_simp <;> rfl) hS ?_
      refine hd_take 7 (_) rfl rfl (by kernel_rfl) (by kernel_rfl) (by kernel_rfl) (fun _ _ _ h => h) (fun w _ => by go_simp <;> rfl) hS ?_
      simp only [List.getElem_toArray, List.getElem_cons_succ, List.getElem_cons_zero, Act.put, List.setIfInBounds_toArray, List.set_cons_zero, List.set_cons_succ]
      refine hd_take 3 (_) rfl rfl (by kernel_rfl) (by kernel_rfl) (by kernel_rfl) (fun _ _ _ h => h) (fun w _ => by go_simp <;> rfl) hS ?_
      refine hd_take 8 (_) rfl rfl (by kernel_rfl) (by kernel_rfl) (by kernel_rfl) (fun _ _ _ h => h) (fun w _ => by go_simp <;> rfl) hS ?_
      simp only [List.getElem_toArray, List.getElem_cons_succ, List.getElem_cons_zero, Act.put, List.setIfInBounds_toArray, List.set_cons_zero, List.set_cons_succ]
      refine hd_take 4 (_) rfl rfl (by kernel_rfl) (by kernel_rfl) (by kernel_rfl) (fun _ _ _ h => h) (fun w _ => by go_simp <;> rfl) hS ?_
      refine hd_take 9 (_) rfl rfl (by kernel_rfl) (by kernel_rfl) (by kernel_rfl) (fun _ _ _ h => h) (fun w _ => by go_simp <;> rfl) hS ?_
      simp only [List.getElem_toArray, List.getElem_cons_succ, List.getElem_cons_zero, Act.put, List.setIfInBounds_toArray, List.set_cons_zero, List.set_cons_succ]
      refine hd_load 10 b (off + m * 16) (cellsB h0) _ _ rfl rfl rfl (by kernel_rfl) (by kernel_rfl) (by kernel_rfl) (fun _ _ _ h => h) rfl (fun w hw => hw) under_key rfl (key_info HH.out) hS ?_
      simp only [List.getElem_toArray, List.getElem_cons_succ, List.getElem_cons_zero, Act.put, List.setIfInBounds_toArray, List.set_cons_zero, List.set_cons_succ]
      have BA := alloc_bel W0.drew (.cells (cellsB zeroK).toArray 24)
      refine hd_sole 11 (by kernel_rfl) (op_run (.pointer (some ⟨W0.heap.size, 0, none⟩)) (W0.drew.alloc (.cells (cellsB zeroK).toArray 24)) rfl rfl (by rw [← HZ.out]; go_simp) ⟨HR.out _ (bel_on bw BA), ?_⟩)
      simp only [List.getElem_toArray, List.getElem_cons_succ, List.getElem_cons_zero, Act.put, List.setIfInBounds_toArray, List.set_cons_zero, List.set_cons_succ]
      have hS2 : (W0.drew.alloc (.cells (cellsB zeroK).toArray 24)).rangeAt b (off + m * 16) (cellsB h0) := HR.out _ (bel_on bw BA)
      refine hd_take 12 (.slice (some ⟨b, off, none⟩) m c) rfl rfl (by kernel_rfl) (by kernel_rfl) (by kernel_rfl) (fun _ _ _ h => h) (fun w _ => by go_simp) hS2 ?_
      simp only [List.getElem_toArray, List.getElem_cons_succ, List.getElem_cons_zero, Act.put, List.setIfInBounds_toArray, List.set_cons_zero, List.set_cons_succ]
      have N1 : Blk (W0.drew.alloc (.cells (cellsB zeroK).toArray 24)) W0.heap.size 24 (cellsB zeroK).toArray := Blk.new W0.drew _ _
      have hbb : W0.heap.size ≠ b := by have := HBW.out; omega
      have hS3 := range_setRow hS2 (g' := W0.heap.size) (by omega) (cellsB h0).toArray
      refine hd_store 13 W0.heap.size (cellsB h0).toArray _ _ _ rfl rfl rfl (by kernel_rfl) rfl rfl N1 (cellsB_size _ HH.out) (by rw [List.size_toArray, List.size_toArray, cellsB_length, cellsB_length, HH.out]; rfl) (all_oneCell_toArray (cells_one h0)) hS3 ?_
      refine wpAnyH_done (by kernel_rfl) (NoPanic.normal ?_) _
      have H1 := Lib.hid (N1.setRow (cellsB h0).toArray)
      have L1 := Lib.hid (show Blk ((W0.drew.alloc (.cells (cellsB zeroK).toArray 24)).setRow W0.heap.size (cellsB h0).toArray) w.heap.size _ _ from (setRow_other _ W0.heap.size w.heap.size (cellsB h0).toArray (by omega)).trans (B0.out.drew.alloc (.cells (cellsB zeroK).toArray 24)))
      have R1 := Lib.hid (show Blk ((W0.drew.alloc (.cells (cellsB zeroK).toArray 24)).setRow W0.heap.size (cellsB h0).toArray) (w.heap.size + 1) _ _ from (setRow_other _ W0.heap.size (w.heap.size + 1) (cellsB h0).toArray (by omega)).trans (B1.out.drew.alloc (.cells (cellsB zeroK).toArray 24)))
      have BW := below_setRow (bel_on bw BA) (g := W0.heap.size) (by omega) (cellsB h0).toArray
      have hz1 : W0.heap.size < ((W0.drew.alloc (.cells (cellsB zeroK).toArray 24)).setRow W0.heap.size (cellsB h0).toArray).heap.size := by simp [World.setRow]
      have HBH := Lib.hid hz0
      generalize (W0.drew.alloc (.cells (cellsB zeroK).toArray 24)).setRow W0.heap.size (cellsB h0).toArray = W1 at H1 L1 R1 BW hz1 ⊢
      clear hS hS2 hS3 N1 BA bw hz0 hbb
      go_wp2_with (first
        | (refine wpList_load_row rfl 24 (.tmp 4) rfl w.heap.size rfl 24 (cellsB leaf).toArray (0, 0) _ L1.out under_key rfl (cellsB_size _ HK.out) ?_)
        | (go_at_call 138; refine (HC.out _ BW).mono ?_; rintro e w2 ⟨⟨X2, x2, rs2, rfl, ho2⟩, hb2⟩; have H2 := Lib.hid ((H1.out.below' hb2).alloc (.cells (cellsB q).toArray 24)); have R2 := Lib.hid ((R1.out.below' hb2).alloc (.cells (cellsB q).toArray 24)); have Q2 := Lib.hid (Blk.new w2 24 (cellsB q).toArray); have T2 := Lib.hid (ho2.below (alloc_bel w2 (.cells (cellsB q).toArray 24))); have D2 := bel_on (bel_on BW hb2) (alloc_bel w2 (.cells (cellsB q).toArray 24)); have z2 : W1.heap.size ≤ w2.heap.size := hb2.size; generalize hq2 : rs2.length = k2; have HQ2 := Lib.hid hq2; clear ho2 hb2 hq2)
        | (refine wpList_load_row rfl 24 (.tmp 16) rfl w2.heap.size rfl 24 (cellsB q).toArray (0, 0) _ Q2.out under_key rfl (cellsB_size _ HQL.out) ?_)
        | (refine wpList_load_row rfl 24 (.tmp 13) rfl W0.heap.size rfl 24 (cellsB h0).toArray (0, 0) _ H2.out under_key rfl (cellsB_size _ HH.out) ?_)
        | (go_at_call 182; refine (HNT.out _).mono ?_; rintro e w3 ⟨⟨A3, c3, rfl, ho3⟩, hb3⟩; have R3 := Lib.hid (R2.out.below' hb3); have T3 := Lib.hid (T2.out.below hb3); have O3 := Lib.hid (ho3.le_ (B' := W1.heap.size) (by simp; omega)); have D3 := bel_on D2 hb3; have z3 : W1.heap.size ≤ w3.heap.size := Nat.le_trans z2 (Nat.le_trans (by simp) hb3.size); clear ho3 hb3)
        | (go_at_call 63; refine (HD.out _ _ _ (O3.out.br (by rw [HNL.out]; omega))).mono ?_; rintro e w4 ⟨rfl, hb4⟩; have R4 := Lib.hid ((R3.out.below' hb4).alloc (.cells #[.slice A3 33 c3] 22)); have T4 := Lib.hid ((T3.out.below hb4).below (alloc_bel w4 (.cells #[.slice A3 33 c3] 22))); have O4 := Lib.hid ((O3.out.below hb4).below (alloc_bel w4 (.cells #[.slice A3 33 c3] 22))); have D4 := bel_on (bel_on D3 hb4) (alloc_bel w4 (.cells #[.slice A3 33 c3] 22)); have z4 : W1.heap.size ≤ (w4.alloc (.cells #[.slice A3 33 c3] 22)).heap.size := Nat.le_trans z3 (Nat.le_trans hb4.size (by simp)); have S4 := Lib.hid (src_one w4 (.slice A3 33 c3) 22); clear hb4)
        | (at_builtin; refine wpList_append_row _ rfl (.tmp 74) (.tmp 76) rfl W1.heap.size X2 k2 x2 rs2 HQ2.out rfl T4.out.2.1 ⟨A3, c3, t⟩ (some ⟨w4.heap.size, 0, none⟩) 1 rfl (by rw [show BRow.v ⟨A3, c3, t⟩ = .slice A3 33 c3 from by unfold BRow.v; rw [HNL.out]]; exact S4.out) (by have := T4.out.len; rw [HQ2.out] at this; have := HQN.out; omega) z4 ?_; intro A5 c5 w5 ro5 hb5 hg5; rw [← HQ2.out] at hg5; have R5 := R4.out.grown T4.out.2.1 (by decide) hg5; have T5 := Lib.hid (T4.out.snoc O4.out ro5 hg5); have D5 := Lib.hid (D4.trans (hb5.mono BW.size)); have hr5 : (rowAt w5 (w.heap.size + 1)).size = 16 := (by rw [R5.row]; rfl); have hf5 := R5.free; have HR5 := Lib.hid R5; clear R5 ro5 hg5 hb5))
      refine bodyPost_ret (v := .tuple #[.agg (cellsB dg).toArray, .slice A5 (k2 + 1) c5]) ?_ rfl ⟨⟨A5, c5, rs2 ++ [⟨A3, c3, t⟩], by rw [List.length_append, HQ2.out]; rfl, TO.row (T5.out.le_ BW.size) HR5.out _⟩, below_setRow D5.out (by omega) _⟩
      rw [results_cell_tmp Tryz.results138]
      simp [asAddr, Result.andThen, run_loadVar_row _ (w.heap.size + 1) _ _ _ (0, 0) _ (HR5.out.setRow (cellsB dg).toArray) under_key rfl (cellsB_size _ HDL.out)]
    · have hki : ¬ (i : Int) < ((splitS n : Nat) : Int) := by omega
      have hki2 : ((splitS n : Nat) : Int) ≤ (i : Int) := by omega
      have hkn : ((splitS n : Nat) : Int) < (n : Int) := by omega
      obtain ⟨m, hm⟩ : ∃ m, path.length = m + 1 := ⟨path.length - 1, by rw [hp, stepsS_high h2 hk]; omega⟩
      rw [climbS_high _ _ h2 hk]
      have hql := climbS_length leaf (n - splitS n) (i - splitS n) (initK path)
      have hqn := climbS_le leaf (n - splitS n) (i - splitS n) (initK path) (by omega)
      have HC : Hid (∀ W, Below w.heap.size w W → Calls Tryz.prog 138 #[.agg (cellsB leaf).toArray, .int .i64 ((n : Int) - ((splitS n : Nat) : Int)), .int .i64 ((i : Int) - ((splitS n : Nat) : Int)), .slice A m c] W fun e w' => (∃ X x rs, e = .returned (.tuple #[.agg (cellsB (climbS leaf (n - splitS n) (i - splitS n) (initK path)).1).toArray, .slice X rs.length x]) ∧ TO W.heap.size w' X x rs (climbS leaf (n - splitS n) (i - splitS n) (initK path)).2) ∧ Below W.heap.size W w') := fun W hW => by
        have hlen : m = (initK path).length := by rw [initK_length, hm]; omega
        rw [hlen]
        rw [show (n : Int) - ((splitS n : Nat) : Int) = ((n - splitS n : Nat) : Int) from by omega, show (i : Int) - ((splitS n : Nat) : Int) = ((i - splitS n : Nat) : Int) from by omega]
        exact ih (n - splitS n) (by omega) (i - splitS n) (initK path) _ c W (by omega) (by omega) (by omega) (by rw [initK_length, hp, stepsS_high h2 hk]; omega) (h.below hW).init
      obtain ⟨b, off, rfl, hb, hr, hhl⟩ := h.lastAt hm
      have HR : Hid (∀ W, Below w.heap.size w W → W.rangeAt b (off + m * 16) (cellsB (lastK path))) := fun W hW => range_below hr hW
      have HH := Lib.hid hhl
      have hmi : (m : Int) ≤ 140737488351232 := by omega
      have hmc : m ≤ c := by omega
      have hmlt : (m : Int) < (m : Int) + 1 := by omega
      have hsl := fun W => slice_keys_to W (some ⟨b, off, none⟩) (m + 1) c m hmc
      have hwm : IntKind.i64.wrap ((m : Nat) : Int) = (m : Int) := by rw [IntKind.wrap_i64]; omega
      generalize climbS leaf (n - splitS n) (i - splitS n) (initK path) = r at HC hql hqn ⊢
      obtain ⟨q, x⟩ := r
      dsimp only at HC hql hqn ⊢
      generalize lastK path = h0 at HR HH ⊢
      rw [hm]
      generalize splitS n = k at *
      have HQL := Lib.hid hql
      have HQN : Hid (x.length ≤ 1000) := by unfold Hid; omega
      have HNT : Hid (∀ W, Calls Tryz.prog 182 #[.agg (cellsB h0).toArray, .agg (cellsB q).toArray] W fun e w' => (∃ A c, e = .returned (.slice A 33 c) ∧ OB W.heap.size w' A c (nodeT h0 q)) ∧ Below W.heap.size W w') := fun W => refNodeText_any h0 q W (by first | exact hql | exact HH.out) (by first | exact HH.out | exact hql)
      have HNL : Hid ((nodeT h0 q).length = 33) := by unfold Hid nodeT; simp [hql, HH.out]
      generalize nodeT h0 q = t at HNT HNL ⊢
      have HD : Hid (∀ X d W, BR W X d t → Calls Tryz.prog 63 #[.slice X 33 d] W fun e w' => e = .returned (.agg (cellsB (digS t)).toArray) ∧ Below W.heap.size W w') := fun X d W h => refDigest_any t X d W HNL.out h (by omega)
      have HDL : Hid ((digS t).length = 16) := digS_length _
      generalize digS t = dg at HDL HD ⊢
      have hdc : (cellsB dg).length = 16 := by rw [cellsB_length, HDL.out]
      have hall := all16 dg
      have hqc : (cellsB q).length = 16 := by rw [cellsB_length, hql]
      have hqa := all16 q
      have HBW : Hid (b < w.heap.size) := hb
      clear ih h hp hm hr hhl hb hl hql hqn
      go_enter Tryz.func138, Tryz.ntmps138
      go_wp2_with (go_at_call 180; rw [HZ.out]; refine (HSP.out _).mono ?_; rintro e w1 ⟨rfl, rfl⟩)
      obtain ⟨W0, hW0⟩ : ∃ W : World, W = (w.alloc (.cells (cellsB leaf).toArray 24)).alloc (.cells (cellsB zeroK).toArray 24) := ⟨_, rfl⟩
      have hz0 : W0.heap.size = w.heap.size + 1 + 1 := by rw [hW0]; simp
      rw [← hW0] at b0 B0 B1 ⊢
      clear hW0
      refine wp_region_noPanic ?_
      have bw : Below w.heap.size w W0.drew := b0.drew
      refine wp_region_held_drew (S := fun w' => w'.rangeAt b (off + m * 16) (cellsB h0)) (by kernel_rfl) (HR.out _ bw) (fun hS => ?_)
      refine hd_take 0 (_) rfl rfl (by kernel_rfl) (by kernel_rfl) (by kernel_rfl) (fun _ _ _ h => h) (fun w _ => by go_simp <;> rfl) hS ?_
      refine hd_take 1 (_) rfl rfl (by kernel_rfl) (by kernel_rfl) (by kernel_rfl) (fun _ _ _ h => h) (fun w _ => by go_simp <;> rfl) hS ?_
      refine hd_take 5 (_) rfl rfl (by kernel_rfl) (by kernel_rfl) (by kernel_rfl) (fun _ _ _ h => h) (fun w _ => by go_simp <;> rfl) hS ?_
      refine hd_take 6 (_) rfl rfl (by kernel_rfl) (by kernel_rfl) (by kernel_rfl) (fun _ _ _ h => h) (fun w _ => by go_simp <;> rfl) hS ?_
      simp only [List.getElem_toArray, List.getElem_cons_succ, List.getElem_cons_zero, Act.put, List.setIfInBounds_toArray, List.set_cons_zero, List.set_cons_succ]
      refine hd_take 2 (_) rfl rfl (by kernel_rfl) (by kernel_rfl) (by kernel_rfl) (fun _ _ _ h => h) (fun w _ => by go_simp <;> rfl) hS ?_
      refine hd_take 7 (_) rfl rfl (by kernel_rfl) (by kernel_rfl) (by kernel_rfl) (fun _ _ _ h => h) (fun w _ => by go_simp <;> rfl) hS ?_
      simp only [List.getElem_toArray, List.getElem_cons_succ, List.getElem_cons_zero, Act.put, List.setIfInBounds_toArray, List.set_cons_zero, List.set_cons_succ]
      refine hd_take 3 (_) rfl rfl (by kernel_rfl) (by kernel_rfl) (by kernel_rfl) (fun _ _ _ h => h) (fun w _ => by go_simp <;> rfl) hS ?_
      refine hd_take 8 (_) rfl rfl (by kernel_rfl) (by kernel_rfl) (by kernel_rfl) (fun _ _ _ h => h) (fun w _ => by go_simp <;> rfl) hS ?_
      simp only [List.getElem_toArray, List.getElem_cons_succ, List.getElem_cons_zero, Act.put, List.setIfInBounds_toArray, List.set_cons_zero, List.set_cons_succ]
      refine hd_take 4 (_) rfl rfl (by kernel_rfl) (by kernel_rfl) (by kernel_rfl) (fun _ _ _ h => h) (fun w _ => by go_simp <;> rfl) hS ?_
      refine hd_take 9 (_) rfl rfl (by kernel_rfl) (by kernel_rfl) (by kernel_rfl) (fun _ _ _ h => h) (fun w _ => by go_simp <;> rfl) hS ?_
      simp only [List.getElem_toArray, List.getElem_cons_succ, List.getElem_cons_zero, Act.put, List.setIfInBounds_toArray, List.set_cons_zero, List.set_cons_succ]
      refine hd_load 10 b (off + m * 16) (cellsB h0) _ _ rfl rfl rfl (by kernel_rfl) (by kernel_rfl) (by kernel_rfl) (fun _ _ _ h => h) rfl (fun w hw => hw) under_key rfl (key_info HH.out) hS ?_
      simp only [List.getElem_toArray, List.getElem_cons_succ, List.getElem_cons_zero, Act.put, List.setIfInBounds_toArray, List.set_cons_zero, List.set_cons_succ]
      have BA := alloc_bel W0.drew (.cells (cellsB zeroK).toArray 24)
      refine hd_sole 11 (by kernel_rfl) (op_run (.pointer (some ⟨W0.heap.size, 0, none⟩)) (W0.drew.alloc (.cells (cellsB zeroK).toArray 24)) rfl rfl (by rw [← HZ.out]; go_simp) ⟨HR.out _ (bel_on bw BA), ?_⟩)
      simp only [List.getElem_toArray, List.getElem_cons_succ, List.getElem_cons_zero, Act.put, List.setIfInBounds_toArray, List.set_cons_zero, List.set_cons_succ]
      have hS2 : (W0.drew.alloc (.cells (cellsB zeroK).toArray 24)).rangeAt b (off + m * 16) (cellsB h0) := HR.out _ (bel_on bw BA)
      refine hd_take 12 (.slice (some ⟨b, off, none⟩) m c) rfl rfl (by kernel_rfl) (by kernel_rfl) (by kernel_rfl) (fun _ _ _ h => h) (fun w _ => by go_simp) hS2 ?_
      simp only [List.getElem_toArray, List.getElem_cons_succ, List.getElem_cons_zero, Act.put, List.setIfInBounds_toArray, List.set_cons_zero, List.set_cons_succ]
      have N1 : Blk (W0.drew.alloc (.cells (cellsB zeroK).toArray 24)) W0.heap.size 24 (cellsB zeroK).toArray := Blk.new W0.drew _ _
      have hbb : W0.heap.size ≠ b := by have := HBW.out; omega
      have hS3 := range_setRow hS2 (g' := W0.heap.size) (by omega) (cellsB h0).toArray
      refine hd_store 13 W0.heap.size (cellsB h0).toArray _ _ _ rfl rfl rfl (by kernel_rfl) rfl rfl N1 (cellsB_size _ HH.out) (by rw [List.size_toArray, List.size_toArray, cellsB_length, cellsB_length, HH.out]; rfl) (all_oneCell_toArray (cells_one h0)) hS3 ?_
      refine wpAnyH_done (by kernel_rfl) (NoPanic.normal ?_) _
      have H1 := Lib.hid (N1.setRow (cellsB h0).toArray)
      have L1 := Lib.hid (show Blk ((W0.drew.alloc (.cells (cellsB zeroK).toArray 24)).setRow W0.heap.size (cellsB h0).toArray) w.heap.size _ _ from (setRow_other _ W0.heap.size w.heap.size (cellsB h0).toArray (by omega)).trans (B0.out.drew.alloc (.cells (cellsB zeroK).toArray 24)))
      have R1 := Lib.hid (show Blk ((W0.drew.alloc (.cells (cellsB zeroK).toArray 24)).setRow W0.heap.size (cellsB h0).toArray) (w.heap.size + 1) _ _ from (setRow_other _ W0.heap.size (w.heap.size + 1) (cellsB h0).toArray (by omega)).trans (B1.out.drew.alloc (.cells (cellsB zeroK).toArray 24)))
      have BW := below_setRow (bel_on bw BA) (g := W0.heap.size) (by omega) (cellsB h0).toArray
      have hz1 : W0.heap.size < ((W0.drew.alloc (.cells (cellsB zeroK).toArray 24)).setRow W0.heap.size (cellsB h0).toArray).heap.size := by simp [World.setRow]
      have HBH := Lib.hid hz0
      generalize (W0.drew.alloc (.cells (cellsB zeroK).toArray 24)).setRow W0.heap.size (cellsB h0).toArray = W1 at H1 L1 R1 BW hz1 ⊢
      clear hS hS2 hS3 N1 BA bw hz0 hbb
      go_wp2_with (first
        | (refine wpList_load_row rfl 24 (.tmp 4) rfl w.heap.size rfl 24 (cellsB leaf).toArray (0, 0) _ L1.out under_key rfl (cellsB_size _ HK.out) ?_)
        | (go_at_call 138; refine (HC.out _ BW).mono ?_; rintro e w2 ⟨⟨X2, x2, rs2, rfl, ho2⟩, hb2⟩; have H2 := Lib.hid ((H1.out.below' hb2).alloc (.cells (cellsB q).toArray 24)); have R2 := Lib.hid ((R1.out.below' hb2).alloc (.cells (cellsB q).toArray 24)); have Q2 := Lib.hid (Blk.new w2 24 (cellsB q).toArray); have T2 := Lib.hid (ho2.below (alloc_bel w2 (.cells (cellsB q).toArray 24))); have D2 := bel_on (bel_on BW hb2) (alloc_bel w2 (.cells (cellsB q).toArray 24)); have z2 : W1.heap.size ≤ w2.heap.size := hb2.size; generalize hq2 : rs2.length = k2; have HQ2 := Lib.hid hq2; clear ho2 hb2 hq2)
        | (refine wpList_load_row rfl 24 (.tmp 18) rfl w2.heap.size rfl 24 (cellsB q).toArray (0, 0) _ Q2.out under_key rfl (cellsB_size _ HQL.out) ?_)
        | (refine wpList_load_row rfl 24 (.tmp 13) rfl W0.heap.size rfl 24 (cellsB h0).toArray (0, 0) _ H2.out under_key rfl (cellsB_size _ HH.out) ?_)
        | (go_at_call 182; refine (HNT.out _).mono ?_; rintro e w3 ⟨⟨A3, c3, rfl, ho3⟩, hb3⟩; have R3 := Lib.hid (R2.out.below' hb3); have T3 := Lib.hid (T2.out.below hb3); have O3 := Lib.hid (ho3.le_ (B' := W1.heap.size) (by simp; omega)); have D3 := bel_on D2 hb3; have z3 : W1.heap.size ≤ w3.heap.size := Nat.le_trans z2 (Nat.le_trans (by simp) hb3.size); clear ho3 hb3)
        | (go_at_call 63; refine (HD.out _ _ _ (O3.out.br (by rw [HNL.out]; omega))).mono ?_; rintro e w4 ⟨rfl, hb4⟩; have R4 := Lib.hid ((R3.out.below' hb4).alloc (.cells #[.slice A3 33 c3] 22)); have T4 := Lib.hid ((T3.out.below hb4).below (alloc_bel w4 (.cells #[.slice A3 33 c3] 22))); have O4 := Lib.hid ((O3.out.below hb4).below (alloc_bel w4 (.cells #[.slice A3 33 c3] 22))); have D4 := bel_on (bel_on D3 hb4) (alloc_bel w4 (.cells #[.slice A3 33 c3] 22)); have z4 : W1.heap.size ≤ (w4.alloc (.cells #[.slice A3 33 c3] 22)).heap.size := Nat.le_trans z3 (Nat.le_trans hb4.size (by simp)); have S4 := Lib.hid (src_one w4 (.slice A3 33 c3) 22); clear hb4)
        | (at_builtin; refine wpList_append_row _ rfl (.tmp 74) (.tmp 76) rfl W1.heap.size X2 k2 x2 rs2 HQ2.out rfl T4.out.2.1 ⟨A3, c3, t⟩ (some ⟨w4.heap.size, 0, none⟩) 1 rfl (by rw [show BRow.v ⟨A3, c3, t⟩ = .slice A3 33 c3 from by unfold BRow.v; rw [HNL.out]]; exact S4.out) (by have := T4.out.len; rw [HQ2.out] at this; have := HQN.out; omega) z4 ?_; intro A5 c5 w5 ro5 hb5 hg5; rw [← HQ2.out] at hg5; have R5 := R4.out.grown T4.out.2.1 (by decide) hg5; have T5 := Lib.hid (T4.out.snoc O4.out ro5 hg5); have D5 := Lib.hid (D4.trans (hb5.mono BW.size)); have hr5 : (rowAt w5 (w.heap.size + 1)).size = 16 := (by rw [R5.row]; rfl); have hf5 := R5.free; have HR5 := Lib.hid R5; clear R5 ro5 hg5 hb5))
      refine bodyPost_ret (v := .tuple #[.agg (cellsB dg).toArray, .slice A5 (k2 + 1) c5]) ?_ rfl ⟨⟨A5, c5, rs2 ++ [⟨A3, c3, t⟩], by rw [List.length_append, HQ2.out]; rfl, TO.row (T5.out.le_ BW.size) HR5.out _⟩, below_setRow D5.out (by omega) _⟩
      rw [results_cell_tmp Tryz.results138]
      simp [asAddr, Result.andThen, run_loadVar_row _ (w.heap.size + 1) _ _ _ (0, 0) _ (HR5.out.setRow (cellsB dg).toArray) under_key rfl (cellsB_size _ HDL.out)]
end Go.Proofs.YtinpiodfpnbllaaGreatDoor

/- What a proof gives: the reference's Verify and PathTexts. -/
namespace Go.Proofs.YtinpiodfpnbllaaGreatDoor
open Go.RowKit
set_option linter.unusedVariables false
set_option linter.unusedSimpArgs false
attribute [local go_sem] run_storeCells_key run_storeCells_new equalIn_keys

theorem lastK_short {p : List (List UInt8)} (h : ∀ k ∈ p, k.length = 16) : (lastK p).length ≤ 16 := by
  rcases Nat.eq_zero_or_pos p.length with h0 | h0
  · rw [List.eq_nil_of_length_eq_zero h0]; simp [lastK]
  · rw [h _ (lastK_mem h0)]; omega
theorem climbS_short (leaf : List UInt8) (hl : leaf.length = 16) : ∀ (n i : Nat) (path : List (List UInt8)), (∀ k ∈ path, k.length = 16) → ∀ t ∈ (climbS leaf n i path).2, t.length ≤ 1000 := by
  intro n
  induction n using Nat.strongRecOn with
  | _ n ih =>
    intro i path hp t ht
    have hlast := lastK_short hp
    have hin : ∀ k ∈ initK path, k.length = 16 := fun k hk => hp k (initK_mem hk)
    rcases Nat.lt_or_ge n 2 with h2 | h2
    · rw [climbS_one _ (by omega), List.mem_singleton] at ht
      subst ht
      simp [leafT, hl]
    have s1 := splitS_lt h2
    have s2 := splitS_pos n
    by_cases hi : i < splitS n
    · rw [climbS_low _ _ h2 hi] at ht
      rcases List.mem_append.1 ht with ht | ht
      · exact ih (splitS n) s1 i _ hin t ht
      · rw [List.mem_singleton.1 ht]
        have := climbS_length leaf (splitS n) i (initK path)
        simp only [nodeT, List.length_cons, List.length_append]; omega
    · rw [climbS_high _ _ h2 hi] at ht
      rcases List.mem_append.1 ht with ht | ht
      · exact ih (n - splitS n) (by omega) _ _ hin t ht
      · rw [List.mem_singleton.1 ht]
        have := climbS_length leaf (n - splitS n) (i - splitS n) (initK path)
        simp only [nodeT, List.length_cons, List.length_append]; omega

set_option maxHeartbeats 2000000 in
set_option maxRecDepth 100000 in
theorem refGives_any (leaf : List UInt8) (n i : Nat) (P : List (List UInt8)) (A : Option Addr) (c : Nat) (w : World) {m : Nat} (hm : P.length = m) (hl : leaf.length = 16) (h1 : 1 ≤ n) (h2 : n ≤ 128) (hi : i < n) (hp : P.length = stepsS n i) (h : KR w A c P) :
    Calls Tryz.prog 75 #[.agg (cellsB leaf).toArray, .agg #[.int .i64 (n : Int), .int .i64 (i : Int), .slice A m c]] w fun e w' => e = .returned (.agg (cellsB (climbS leaf n i P).1).toArray) ∧ Below w.heap.size w w' := by
  have HZ := Lib.hid zero16
  have HK := Lib.hid hl
  have b0 := alloc3_bel w (.cells (cellsB leaf).toArray 24) (.cells #[.int .i64 (n : Int), .int .i64 (i : Int), .slice A m c] 27) (.cells (cellsB zeroK).toArray 24)
  have L0 := Lib.hid (blk_a0 w (cellsB leaf).toArray 24 (.cells #[.int .i64 (n : Int), .int .i64 (i : Int), .slice A m c] 27) (.cells (cellsB zeroK).toArray 24))
  have R0 := Lib.hid (blk_a2 w (.cells (cellsB leaf).toArray 24) (.cells #[.int .i64 (n : Int), .int .i64 (i : Int), .slice A m c] 27) (cellsB zeroK).toArray 24)
  have HG : Hid (∀ W, Below w.heap.size w W → Calls Tryz.prog 138 #[.agg (cellsB leaf).toArray, .int .i64 (n : Int), .int .i64 (i : Int), .slice A m c] W fun e w' => (∃ X x rs, e = .returned (.tuple #[.agg (cellsB (climbS leaf n i P).1).toArray, .slice X rs.length x]) ∧ TO W.heap.size w' X x rs (climbS leaf n i P).2) ∧ Below W.heap.size W w') := fun W hW => by
    have := refGiven_any leaf hl n i P A c W h1 (by omega) hi hp (h.below hW)
    rwa [hm] at this
  have hrl := climbS_length leaf n i P
  generalize climbS leaf n i P = r at HG hrl ⊢
  obtain ⟨q, x⟩ := r
  dsimp only at HG hrl ⊢
  have HRL := Lib.hid hrl
  have hdc : (cellsB q).length = 16 := by rw [cellsB_length, hrl]
  have hall := all16 q
  clear hm hl h1 h2 hi hp h hrl
  go_enter Tryz.func75, Tryz.ntmps75
  go_wp2_with (first
    | (refine wpList_load_row rfl 24 (.tmp 2) rfl w.heap.size rfl 24 (cellsB leaf).toArray (0, 0) _ (by rw [HZ.out]; exact L0.out) under_key rfl (cellsB_size _ HK.out) ?_)
    | (go_at_call 138; rw [HZ.out]; refine (HG.out _ b0).mono ?_; rintro e w1 ⟨⟨A1, c1, rs, rfl, _⟩, hb1⟩; have D1 := bel_on (bel_on b0 hb1) (alloc_bel w1 (.cells (cellsB q).toArray 24)); have Q1 := Lib.hid (Blk.new w1 24 (cellsB q).toArray); have R1 := (R0.out.below' hb1).alloc (.cells (cellsB q).toArray 24); have hr1 : (rowAt (w1.alloc (.cells (cellsB q).toArray 24)) (w.heap.size + 1 + 1)).size = 16 := (by rw [R1.row]; rfl); have hf1 := R1.free; have HR1 := Lib.hid R1; clear R1 hb1)
    | (refine wpList_load_row rfl 24 (.tmp 5) rfl w1.heap.size rfl 24 (cellsB q).toArray (0, 0) _ Q1.out under_key rfl (cellsB_size _ HRL.out) ?_))
  exact bodyPost_ret (results_cell_row rfl _ _ (w.heap.size + 1 + 1) _ _ (0, 0) _ rfl (HR1.out.setRow (cellsB q).toArray) under_key rfl (cellsB_size _ HRL.out)) rfl ⟨rfl, below_setRow D1 (by omega) _⟩

theorem proof_info (a b : Int) (A : Option Addr) (m c : Nat) : (Tryz.prog.info? 27).map (·.size) = some ([Value.int .i64 a, .int .i64 b, .slice A m c]).length := by
  rw [show (Tryz.prog.info? 27).map (·.size) = some 3 from by kernel_rfl]; rfl

end Go.Proofs.YtinpiodfpnbllaaGreatDoor

/- The document's verdict on a case: the unfit. -/
namespace Go.Proofs.YtinpiodfpnbllaaGreatDoor
open Go.RowKit
set_option linter.unusedVariables false
set_option linter.unusedSimpArgs false


set_option maxHeartbeats 8000000 in
set_option maxRecDepth 100000 in
theorem refJudge_bad (v : CV) (A : Option Addr) (m c : Nat) (Y : Option Addr) (n y : Nat) (H : Option Addr) (k h : Nat) (w : World) (g : CaseOK w v A m c Y n y H k h) (hq : fitB v = false) :
    Calls Tryz.prog 24 #[.agg (caseC v A m c Y n y H k h).toArray] w fun e w' => e = .returned (.tuple #[.int .u8 0, .int .i64 8]) ∧ Below w.heap.size w w' := by
  have b0 := alloc_bel w (.cells (caseC v A m c Y n y H k h).toArray 29)
  have B0 := Blk.new w 29 (caseC v A m c Y n y H k h).toArray
  have HBX : Hid (∀ W, Below (w.alloc (.cells (caseC v A m c Y n y H k h).toArray 29)).heap.size (w.alloc (.cells (caseC v A m c Y n y H k h).toArray 29)) W → Box W w.heap.size v A m c Y n y H k h) := fun W hW => box_of (B0.below' hW) g.r16 g.c16 g.n16
  have D0 : Below (w.alloc (.cells (caseC v A m c Y n y H k h).toArray 29)).heap.size (w.alloc (.cells (caseC v A m c Y n y H k h).toArray 29)) (w.alloc (.cells (caseC v A m c Y n y H k h).toArray 29)) := Below.refl _ _
  have hnl := g.cp.len
  have hkl := g.half.len
  have hml := g.P.len
  have hni : (n : Int) ≤ 140737488351232 := by rw [g.hn] at hnl; omega
  have hki : (k : Int) ≤ 140737488351232 := by rw [g.hk] at hkl; omega
  have HR := Lib.hid g.r16
  have HC := Lib.hid g.c16
  have HNN := Lib.hid g.n16
  have HSY : Hid (∀ W, Below w.heap.size w W → Calls Tryz.prog 34 #[.slice Y n y, .int .i64 (n : Int)] W fun e w' => e = .returned (.bool (symB v.cp 2)) ∧ W = w') := fun W hW => by
    have := refIsCopy_any Y y v.cp n W g.hn (g.cp.below hW) (by rw [g.hn] at hnl; omega)
    rwa [show copyB v.cp n = symB v.cp 2 from by unfold copyB; rw [g.hn]; simp] at this
  have HF : Hid (∀ W, Calls Tryz.prog 74 #[.agg #[.int .i64 v.a, .int .i64 v.b, .slice A m c]] W fun e w' => e = .returned (.bool (fitsB v.a v.b m)) ∧ Below W.heap.size W w') := fun W => refFits_any v.a v.b A m c W (by rw [← g.hm]; exact hml)
  have HFI : ¬ ((1 ≤ n ∧ n ≤ 64) ∧ symB v.cp 2 = true ∧ 1 ≤ v.need ∧ v.need ≤ (n : Int) ∧ fitsB v.a v.b m = true) := by
    rw [← and_assoc, ← g.hn, ← g.hm, ← halfB_iff, ← fitB_iff, hq]; simp
  have HG : Hid (fitsB v.a v.b m = true → ∀ W, Below w.heap.size w W → Calls Tryz.prog 75 #[.agg (cellsB v.com).toArray, .agg #[.int .i64 v.a, .int .i64 v.b, .slice A m c]] W fun e w' => e = .returned (.agg (cellsB (climbS v.com v.a.toNat v.b.toNat v.P).1).toArray) ∧ Below W.heap.size W w') := fun hf W hW => by
    obtain ⟨⟨g1, g2, g3, g4⟩, g5⟩ := fitsB_iff.1 hf
    have := refGives_any v.com v.a.toNat v.b.toNat v.P A c W g.hm g.c16 (by omega) (by omega) (by omega) (by rw [g.hm]; exact g5) (g.P.below hW)
    rwa [Int.toNat_of_nonneg (by omega), Int.toNat_of_nonneg (by omega)] at this
  have HGL' := Lib.hid (climbS_length v.com v.a.toNat v.b.toNat v.P)
  have HH : Hid (∀ W, Below w.heap.size w W → Calls Tryz.prog 33 #[.slice H k h] W fun e w' => e = .returned (.bool (halfB v.half 1)) ∧ W = w') := fun W hW => isHalf_any H h v.half W g.hk (g.half.below hW)
  have HP : Hid (halfB v.half 1 = true → ∀ W, Below w.heap.size w W → Calls Tryz.prog 64 #[.slice H k h, .agg (cellsB v.nonce).toArray] W fun e w' => (∃ X x, e = .returned (.slice X (k + 17) x) ∧ BR w' X x (openT v.half v.nonce)) ∧ Below W.heap.size W w') := fun hh W hW => refOpening_any v.half v.nonce H h W g.hk (by have := (halfB_iff.1 hh).1.2; rw [g.hk] at this; omega) g.n16 (g.half.below hW)
  have HD : Hid (halfB v.half 1 = true → ∀ X x W, BR W X x (openT v.half v.nonce) → Calls Tryz.prog 63 #[.slice X (k + 17) x] W fun e w' => e = .returned (.agg (cellsB (digS (openT v.half v.nonce))).toArray) ∧ Below W.heap.size W w') := fun hh X x W hX => refDigest_any (openT v.half v.nonce) X x W (by rw [openT_length _ _ g.n16, g.hk]) hX (by have := (halfB_iff.1 hh).1.2; rw [g.hk] at this; omega)
  have HDL := Lib.hid (digS_length (openT v.half v.nonce))
  have HA : Hid (k = n → 1 ≤ n → ∀ W, Below w.heap.size w W → Calls Tryz.prog 76 #[.slice H k h, .slice Y n y] W fun e w' => e = .returned (.int .i64 (agreeN v.half v.cp n : Int)) ∧ Below W.heap.size W w') := fun e h1 W hW => by
    subst e
    exact refAgreements_any H Y h y v.half v.cp W g.hk g.hn h1 (g.half.below hW) (g.cp.below hW)
  generalize symB v.cp 2 = s at HSY HFI
  generalize halfB v.half 1 = hf at HH HP HD
  generalize agreeN v.half v.cp n = z at HA
  generalize (climbS v.com v.a.toNat v.b.toNat v.P).1 = d at HG HGL'
  generalize digS (openT v.half v.nonce) = dg at HD HDL
  generalize openT v.half v.nonce = ot at HP HD
  generalize fitsB v.a v.b m = f at HF HFI HG
  generalize caseC v A m c Y n y H k h = cs at HBX b0 D0 ⊢
  obtain ⟨W0, hW0⟩ : ∃ W, W = w.alloc (.cells cs.toArray 29) := ⟨_, rfl⟩
  rw [← hW0] at HBX b0 D0
  have HW0 := Lib.hid hW0
  obtain ⟨root, com, a, b, P, cp, need, op, half, nonce⟩ := v
  dsimp only at HF HFI HG HR HC HNN HP HBX
  have k35 : W0.cell? ⟨w.heap.size, 35, none⟩ = some (.slice Y n y) := (HBX.out _ D0).c35
  have k36 : W0.cell? ⟨w.heap.size, 36, none⟩ = some (.int .i64 need) := (HBX.out _ D0).c36
  have k32 : W0.cell? ⟨w.heap.size, 32, none⟩ = some (.int .i64 a) := (HBX.out _ D0).pr 0 _ rfl
  have k33 : W0.cell? ⟨w.heap.size, 33, none⟩ = some (.int .i64 b) := (HBX.out _ D0).pr 1 _ rfl
  have k34 : W0.cell? ⟨w.heap.size, 34, none⟩ = some (.slice A m c) := (HBX.out _ D0).pr 2 _ rfl
  have HS : Hid (∀ W, Below W0.heap.size W0 W → W.rangeAt w.heap.size 0 (cellsB root) ∧ W.rangeAt w.heap.size 16 (cellsB com) ∧ W.rangeAt w.heap.size 32 [.int .i64 a, .int .i64 b, .slice A m c] ∧ W.rangeAt w.heap.size 39 (cellsB nonce) ∧ W.cell? ⟨w.heap.size, 35, none⟩ = some (.slice Y n y) ∧ W.cell? ⟨w.heap.size, 36, none⟩ = some (.int .i64 need) ∧ W.cell? ⟨w.heap.size, 37, none⟩ = some (.bool op) ∧ W.cell? ⟨w.heap.size, 38, none⟩ = some (.slice H k h)) := fun W hW => by
    have := HBX.out W hW
    exact ⟨this.root, this.com, this.pr, this.nonce, this.c35, this.c36, this.c37, this.c38⟩
  clear g hnl hkl hml hW0 B0 HBX
  have ways : n < 1 ∨ 64 < n ∨ ((1 ≤ n ∧ n ≤ 64) ∧ s = false) ∨ ((1 ≤ n ∧ n ≤ 64) ∧ s = true ∧ need < 1) ∨ ((1 ≤ n ∧ n ≤ 64) ∧ s = true ∧ 1 ≤ need ∧ (n : Int) < need) ∨ ((1 ≤ n ∧ n ≤ 64) ∧ s = true ∧ 1 ≤ need ∧ need ≤ (n : Int) ∧ f = false) := by
    cases s <;> cases f <;> simp at HFI ⊢ <;> omega
  clear HFI hq
  rcases ways with h1 | h1 | ⟨⟨h1, h2⟩, rfl⟩ | ⟨⟨h1, h2⟩, rfl, h3⟩ | ⟨⟨h1, h2⟩, rfl, h3, h4⟩ | ⟨⟨h1, h2⟩, rfl, h3, h4, rfl⟩
  · skip
    have s1 : decide ((n : Int) < 1) = true := by simp; omega
    clear h1
    go_enter Tryz.func24, Tryz.ntmps24
    go_wp2_with (first
    | (go_at_call 34; (first | rw [← HW0.out] | skip); refine (HSY.out _ b0).mono ?_; rintro e w1 ⟨rfl, rfl⟩)
    | (go_at_call 74; refine (HF.out _).mono ?_; rintro e w1 ⟨rfl, hb1⟩; have D1 := bel_on D0 hb1; clear hb1)
    | rw [← HW0.out])
    go_ret2
    exact ⟨by first | rfl | simp, bel_on b0 D0⟩
  · skip
    have s1 : decide ((n : Int) < 1) = false := by simp; omega
    have s2 : decide ((64 : Int) < (n : Int)) = true := by simp; omega
    clear h1
    go_enter Tryz.func24, Tryz.ntmps24
    go_wp2_with (first
    | (go_at_call 34; (first | rw [← HW0.out] | skip); refine (HSY.out _ b0).mono ?_; rintro e w1 ⟨rfl, rfl⟩)
    | (go_at_call 74; refine (HF.out _).mono ?_; rintro e w1 ⟨rfl, hb1⟩; have D1 := bel_on D0 hb1; clear hb1)
    | rw [← HW0.out])
    go_ret2
    exact ⟨by first | rfl | simp, bel_on b0 D0⟩
  · skip
    have s1 : decide ((n : Int) < 1) = false := by simp; omega
    have s2 : decide ((64 : Int) < (n : Int)) = false := by simp; omega
    clear h1 h2
    go_enter Tryz.func24, Tryz.ntmps24
    go_wp2_with (first
    | (go_at_call 34; (first | rw [← HW0.out] | skip); refine (HSY.out _ b0).mono ?_; rintro e w1 ⟨rfl, rfl⟩)
    | (go_at_call 74; refine (HF.out _).mono ?_; rintro e w1 ⟨rfl, hb1⟩; have D1 := bel_on D0 hb1; clear hb1)
    | rw [← HW0.out])
    go_ret2
    exact ⟨by first | rfl | simp, bel_on b0 D0⟩
  · skip
    have s1 : decide ((n : Int) < 1) = false := by simp; omega
    have s2 : decide ((64 : Int) < (n : Int)) = false := by simp; omega
    have s3 : decide (need < 1) = true := by simp; omega
    clear h1 h2 h3
    go_enter Tryz.func24, Tryz.ntmps24
    go_wp2_with (first
    | (go_at_call 34; (first | rw [← HW0.out] | skip); refine (HSY.out _ b0).mono ?_; rintro e w1 ⟨rfl, rfl⟩)
    | (go_at_call 74; refine (HF.out _).mono ?_; rintro e w1 ⟨rfl, hb1⟩; have D1 := bel_on D0 hb1; clear hb1)
    | rw [← HW0.out])
    go_ret2
    exact ⟨by first | rfl | simp, bel_on b0 D0⟩
  · skip
    have s1 : decide ((n : Int) < 1) = false := by simp; omega
    have s2 : decide ((64 : Int) < (n : Int)) = false := by simp; omega
    have s3 : decide (need < 1) = false := by simp; omega
    have s4 : decide ((n : Int) < need) = true := by simp; omega
    clear h1 h2 h3 h4
    go_enter Tryz.func24, Tryz.ntmps24
    go_wp2_with (first
    | (go_at_call 34; (first | rw [← HW0.out] | skip); refine (HSY.out _ b0).mono ?_; rintro e w1 ⟨rfl, rfl⟩)
    | (go_at_call 74; refine (HF.out _).mono ?_; rintro e w1 ⟨rfl, hb1⟩; have D1 := bel_on D0 hb1; clear hb1)
    | rw [← HW0.out])
    go_ret2
    exact ⟨by first | rfl | simp, bel_on b0 D0⟩
  · skip
    have s1 : decide ((n : Int) < 1) = false := by simp; omega
    have s2 : decide ((64 : Int) < (n : Int)) = false := by simp; omega
    have s3 : decide (need < 1) = false := by simp; omega
    have s4 : decide ((n : Int) < need) = false := by simp; omega
    clear h1 h2 h3 h4
    go_enter Tryz.func24, Tryz.ntmps24
    go_wp2_with (first
    | (go_at_call 34; (first | rw [← HW0.out] | skip); refine (HSY.out _ b0).mono ?_; rintro e w1 ⟨rfl, rfl⟩)
    | (go_at_call 74; refine (HF.out _).mono ?_; rintro e w1 ⟨rfl, hb1⟩; have D1 := bel_on D0 hb1; clear hb1)
    | rw [← HW0.out])
    go_ret2
    exact ⟨by first | rfl | simp, bel_on b0 D1⟩

set_option maxHeartbeats 8000000 in
set_option maxRecDepth 100000 in
theorem refJudge_void (v : CV) (A : Option Addr) (m c : Nat) (Y : Option Addr) (n y : Nat) (H : Option Addr) (k h : Nat) (w : World) (g : CaseOK w v A m c Y n y H k h) (hq : fitB v = true) (h1 : givesB v = false) :
    Calls Tryz.prog 24 #[.agg (caseC v A m c Y n y H k h).toArray] w fun e w' => e = .returned (.tuple #[.int .u8 1, .int .i64 0]) ∧ Below w.heap.size w w' := by
  have b0 := alloc_bel w (.cells (caseC v A m c Y n y H k h).toArray 29)
  have B0 := Blk.new w 29 (caseC v A m c Y n y H k h).toArray
  have HBX : Hid (∀ W, Below (w.alloc (.cells (caseC v A m c Y n y H k h).toArray 29)).heap.size (w.alloc (.cells (caseC v A m c Y n y H k h).toArray 29)) W → Box W w.heap.size v A m c Y n y H k h) := fun W hW => box_of (B0.below' hW) g.r16 g.c16 g.n16
  have D0 : Below (w.alloc (.cells (caseC v A m c Y n y H k h).toArray 29)).heap.size (w.alloc (.cells (caseC v A m c Y n y H k h).toArray 29)) (w.alloc (.cells (caseC v A m c Y n y H k h).toArray 29)) := Below.refl _ _
  have hnl := g.cp.len
  have hkl := g.half.len
  have hml := g.P.len
  have hni : (n : Int) ≤ 140737488351232 := by rw [g.hn] at hnl; omega
  have hki : (k : Int) ≤ 140737488351232 := by rw [g.hk] at hkl; omega
  have HR := Lib.hid g.r16
  have HC := Lib.hid g.c16
  have HNN := Lib.hid g.n16
  have HSY : Hid (∀ W, Below w.heap.size w W → Calls Tryz.prog 34 #[.slice Y n y, .int .i64 (n : Int)] W fun e w' => e = .returned (.bool (symB v.cp 2)) ∧ W = w') := fun W hW => by
    have := refIsCopy_any Y y v.cp n W g.hn (g.cp.below hW) (by rw [g.hn] at hnl; omega)
    rwa [show copyB v.cp n = symB v.cp 2 from by unfold copyB; rw [g.hn]; simp] at this
  have HF : Hid (∀ W, Calls Tryz.prog 74 #[.agg #[.int .i64 v.a, .int .i64 v.b, .slice A m c]] W fun e w' => e = .returned (.bool (fitsB v.a v.b m)) ∧ Below W.heap.size W w') := fun W => refFits_any v.a v.b A m c W (by rw [← g.hm]; exact hml)
  have HFI : (1 ≤ n ∧ n ≤ 64) ∧ symB v.cp 2 = true ∧ 1 ≤ v.need ∧ v.need ≤ (n : Int) ∧ fitsB v.a v.b m = true := by rw [fitB_iff, halfB_iff, g.hn, g.hm, and_assoc] at hq; exact hq
  have HG : Hid (fitsB v.a v.b m = true → ∀ W, Below w.heap.size w W → Calls Tryz.prog 75 #[.agg (cellsB v.com).toArray, .agg #[.int .i64 v.a, .int .i64 v.b, .slice A m c]] W fun e w' => e = .returned (.agg (cellsB (climbS v.com v.a.toNat v.b.toNat v.P).1).toArray) ∧ Below W.heap.size W w') := fun hf W hW => by
    obtain ⟨⟨g1, g2, g3, g4⟩, g5⟩ := fitsB_iff.1 hf
    have := refGives_any v.com v.a.toNat v.b.toNat v.P A c W g.hm g.c16 (by omega) (by omega) (by omega) (by rw [g.hm]; exact g5) (g.P.below hW)
    rwa [Int.toNat_of_nonneg (by omega), Int.toNat_of_nonneg (by omega)] at this
  have HGB : Hid (((climbS v.com v.a.toNat v.b.toNat v.P).1 == v.root) = false) := h1
  have HGL' := Lib.hid (climbS_length v.com v.a.toNat v.b.toNat v.P)
  have HH : Hid (∀ W, Below w.heap.size w W → Calls Tryz.prog 33 #[.slice H k h] W fun e w' => e = .returned (.bool (halfB v.half 1)) ∧ W = w') := fun W hW => isHalf_any H h v.half W g.hk (g.half.below hW)
  have HP : Hid (halfB v.half 1 = true → ∀ W, Below w.heap.size w W → Calls Tryz.prog 64 #[.slice H k h, .agg (cellsB v.nonce).toArray] W fun e w' => (∃ X x, e = .returned (.slice X (k + 17) x) ∧ BR w' X x (openT v.half v.nonce)) ∧ Below W.heap.size W w') := fun hh W hW => refOpening_any v.half v.nonce H h W g.hk (by have := (halfB_iff.1 hh).1.2; rw [g.hk] at this; omega) g.n16 (g.half.below hW)
  have HD : Hid (halfB v.half 1 = true → ∀ X x W, BR W X x (openT v.half v.nonce) → Calls Tryz.prog 63 #[.slice X (k + 17) x] W fun e w' => e = .returned (.agg (cellsB (digS (openT v.half v.nonce))).toArray) ∧ Below W.heap.size W w') := fun hh X x W hX => refDigest_any (openT v.half v.nonce) X x W (by rw [openT_length _ _ g.n16, g.hk]) hX (by have := (halfB_iff.1 hh).1.2; rw [g.hk] at this; omega)
  have HDL := Lib.hid (digS_length (openT v.half v.nonce))
  have HA : Hid (k = n → 1 ≤ n → ∀ W, Below w.heap.size w W → Calls Tryz.prog 76 #[.slice H k h, .slice Y n y] W fun e w' => e = .returned (.int .i64 (agreeN v.half v.cp n : Int)) ∧ Below W.heap.size W w') := fun e h1 W hW => by
    subst e
    exact refAgreements_any H Y h y v.half v.cp W g.hk g.hn h1 (g.half.below hW) (g.cp.below hW)
  generalize symB v.cp 2 = s at HSY HFI
  generalize halfB v.half 1 = hf at HH HP HD
  generalize agreeN v.half v.cp n = z at HA
  generalize (climbS v.com v.a.toNat v.b.toNat v.P).1 = d at HG HGB HGL'
  generalize digS (openT v.half v.nonce) = dg at HD HDL
  generalize openT v.half v.nonce = ot at HP HD
  generalize fitsB v.a v.b m = f at HF HFI HG
  generalize caseC v A m c Y n y H k h = cs at HBX b0 D0 ⊢
  obtain ⟨W0, hW0⟩ : ∃ W, W = w.alloc (.cells cs.toArray 29) := ⟨_, rfl⟩
  rw [← hW0] at HBX b0 D0
  have HW0 := Lib.hid hW0
  obtain ⟨root, com, a, b, P, cp, need, op, half, nonce⟩ := v
  dsimp only at HF HFI HG HGB HR HC HNN HP HBX
  have k35 : W0.cell? ⟨w.heap.size, 35, none⟩ = some (.slice Y n y) := (HBX.out _ D0).c35
  have k36 : W0.cell? ⟨w.heap.size, 36, none⟩ = some (.int .i64 need) := (HBX.out _ D0).c36
  have k32 : W0.cell? ⟨w.heap.size, 32, none⟩ = some (.int .i64 a) := (HBX.out _ D0).pr 0 _ rfl
  have k33 : W0.cell? ⟨w.heap.size, 33, none⟩ = some (.int .i64 b) := (HBX.out _ D0).pr 1 _ rfl
  have k34 : W0.cell? ⟨w.heap.size, 34, none⟩ = some (.slice A m c) := (HBX.out _ D0).pr 2 _ rfl
  have HS : Hid (∀ W, Below W0.heap.size W0 W → W.rangeAt w.heap.size 0 (cellsB root) ∧ W.rangeAt w.heap.size 16 (cellsB com) ∧ W.rangeAt w.heap.size 32 [.int .i64 a, .int .i64 b, .slice A m c] ∧ W.rangeAt w.heap.size 39 (cellsB nonce) ∧ W.cell? ⟨w.heap.size, 35, none⟩ = some (.slice Y n y) ∧ W.cell? ⟨w.heap.size, 36, none⟩ = some (.int .i64 need) ∧ W.cell? ⟨w.heap.size, 37, none⟩ = some (.bool op) ∧ W.cell? ⟨w.heap.size, 38, none⟩ = some (.slice H k h)) := fun W hW => by
    have := HBX.out W hW
    exact ⟨this.root, this.com, this.pr, this.nonce, this.c35, this.c36, this.c37, this.c38⟩
  clear g hnl hkl hml hW0 B0 HBX
  obtain ⟨⟨h1', h2'⟩, rfl, h3', h4', rfl⟩ := HFI
  have s1 : decide ((n : Int) < 1) = false := by simp; omega
  have s2 : decide ((64 : Int) < (n : Int)) = false := by simp; omega
  have s3 : decide (need < 1) = false := by simp; omega
  have s4 : decide ((n : Int) < need) = false := by simp; omega
  have HN1 := Lib.hid h1'
  have HG' := Lib.hid (HG.out rfl)
  clear hq h1' h2' h3' h4' HG h1
  go_enter Tryz.func24, Tryz.ntmps24
  go_wp2_with (first
    | (go_at_call 34; (first | rw [← HW0.out] | skip); refine (HSY.out _ b0).mono ?_; rintro e w1 ⟨rfl, rfl⟩)
    | (go_at_call 74; refine (HF.out _).mono ?_; rintro e w1 ⟨rfl, hb1⟩; have D1 := bel_on D0 hb1; clear hb1)
    | rw [← HW0.out])
  refine wp_region_noPanic ?_
  refine wp_region_held_drew (S := fun w' => w'.rangeAt w.heap.size 0 (cellsB root) ∧ w'.rangeAt w.heap.size 16 (cellsB com) ∧ w'.rangeAt w.heap.size 32 [.int .i64 a, .int .i64 b, .slice A m c] ∧ w'.rangeAt w.heap.size 39 (cellsB nonce) ∧ w'.cell? ⟨w.heap.size, 35, none⟩ = some (.slice Y n y) ∧ w'.cell? ⟨w.heap.size, 36, none⟩ = some (.int .i64 need) ∧ w'.cell? ⟨w.heap.size, 37, none⟩ = some (.bool op) ∧ w'.cell? ⟨w.heap.size, 38, none⟩ = some (.slice H k h)) (by kernel_rfl) (HS.out _ D1.drew) (fun hS => ?_)
  refine hd_take 0 (_) rfl rfl (by kernel_rfl) (by kernel_rfl) (by kernel_rfl) (fun _ _ _ h => h) (fun w hw => by go_simp <;> rfl) hS ?_
  refine hd_take 2 (_) rfl rfl (by kernel_rfl) (by kernel_rfl) (by kernel_rfl) (fun _ _ _ h => h) (fun w hw => by go_simp <;> rfl) hS ?_
  refine hd_take 5 (_) rfl rfl (by kernel_rfl) (by kernel_rfl) (by kernel_rfl) (fun _ _ _ h => h) (fun w hw => by go_simp <;> rfl) hS ?_
  simp only [List.getElem_toArray, List.getElem_cons_succ, List.getElem_cons_zero, Act.put, List.setIfInBounds_toArray, List.set_cons_zero, List.set_cons_succ]
  refine hd_load 1 w.heap.size 16 (cellsB com) _ _ rfl rfl rfl (by kernel_rfl) (by kernel_rfl) (by kernel_rfl) (fun _ _ _ h => h) rfl (fun w hw => hw.2.1) under_key rfl (key_info HC.out) hS ?_
  refine hd_load 3 w.heap.size 32 ([.int .i64 a, .int .i64 b, .slice A m c]) _ _ rfl rfl rfl (by kernel_rfl) (by kernel_rfl) (by kernel_rfl) (fun _ _ _ h => h) rfl (fun w hw => hw.2.2.1) Tryz.underlying27 rfl (by kernel_rfl) hS ?_
  refine hd_load 6 w.heap.size 0 (cellsB root) _ _ rfl rfl rfl (by kernel_rfl) (by kernel_rfl) (by kernel_rfl) (fun _ _ _ h => h) rfl (fun w hw => hw.1) under_key rfl (key_info HR.out) hS ?_
  simp only [List.getElem_toArray, List.getElem_cons_succ, List.getElem_cons_zero, Act.put, List.setIfInBounds_toArray, List.set_cons_zero, List.set_cons_succ]
  refine hd_calls 4 75 #[.agg (cellsB com).toArray, .agg #[.int .i64 a, .int .i64 b, .slice A m c]] rfl rfl (by kernel_rfl) (by go_simp <;> rfl) ?_
  refine (HG'.out _ (bel_on b0 D1.drew)).mono ?_
  rintro e w4 ⟨rfl, hb4⟩
  have D4 := bel_on D1.drew hb4
  have hS4 := HS.out _ D4
  refine ⟨_, rfl, hS4, ?_⟩
  simp only [List.getElem_toArray, List.getElem_cons_succ, List.getElem_cons_zero, Act.put, List.setIfInBounds_toArray, List.set_cons_zero, List.set_cons_succ]
  refine hd_take 7 (.bool true) rfl rfl (by kernel_rfl) (by kernel_rfl) (by kernel_rfl) (fun _ _ _ h => h) (fun w hw => by have hx := equalIn_keys w d root HGL' HR; have hy := HGB.out; simp [go_sem, hx, hy]) hS4 ?_
  simp only [List.getElem_toArray, List.getElem_cons_succ, List.getElem_cons_zero, Act.put, List.setIfInBounds_toArray, List.set_cons_zero, List.set_cons_succ]
  refine wpAnyH_done (by kernel_rfl) (NoPanic.normal ?_) _
  clear hS hS4 hb4
  go_wp2_with fail
  go_ret2
  exact ⟨by first | rfl | simp, bel_on b0 D4⟩
end Go.Proofs.YtinpiodfpnbllaaGreatDoor

/- The document's verdict on a case: the silent, not open or of another length. -/
namespace Go.Proofs.YtinpiodfpnbllaaGreatDoor
open Go.RowKit
set_option linter.unusedVariables false
set_option linter.unusedSimpArgs false


set_option maxHeartbeats 8000000 in
set_option maxRecDepth 100000 in
theorem refJudge_shut (v : CV) (A : Option Addr) (m c : Nat) (Y : Option Addr) (n y : Nat) (H : Option Addr) (k h : Nat) (w : World) (g : CaseOK w v A m c Y n y H k h) (hq : fitB v = true) (h1 : givesB v = true) (ho : v.op = false) :
    Calls Tryz.prog 24 #[.agg (caseC v A m c Y n y H k h).toArray] w fun e w' => e = .returned (.tuple #[.int .u8 2, .int .i64 0]) ∧ Below w.heap.size w w' := by
  have b0 := alloc_bel w (.cells (caseC v A m c Y n y H k h).toArray 29)
  have B0 := Blk.new w 29 (caseC v A m c Y n y H k h).toArray
  have HBX : Hid (∀ W, Below (w.alloc (.cells (caseC v A m c Y n y H k h).toArray 29)).heap.size (w.alloc (.cells (caseC v A m c Y n y H k h).toArray 29)) W → Box W w.heap.size v A m c Y n y H k h) := fun W hW => box_of (B0.below' hW) g.r16 g.c16 g.n16
  have D0 : Below (w.alloc (.cells (caseC v A m c Y n y H k h).toArray 29)).heap.size (w.alloc (.cells (caseC v A m c Y n y H k h).toArray 29)) (w.alloc (.cells (caseC v A m c Y n y H k h).toArray 29)) := Below.refl _ _
  have hnl := g.cp.len
  have hkl := g.half.len
  have hml := g.P.len
  have hni : (n : Int) ≤ 140737488351232 := by rw [g.hn] at hnl; omega
  have hki : (k : Int) ≤ 140737488351232 := by rw [g.hk] at hkl; omega
  have HR := Lib.hid g.r16
  have HC := Lib.hid g.c16
  have HNN := Lib.hid g.n16
  have HSY : Hid (∀ W, Below w.heap.size w W → Calls Tryz.prog 34 #[.slice Y n y, .int .i64 (n : Int)] W fun e w' => e = .returned (.bool (symB v.cp 2)) ∧ W = w') := fun W hW => by
    have := refIsCopy_any Y y v.cp n W g.hn (g.cp.below hW) (by rw [g.hn] at hnl; omega)
    rwa [show copyB v.cp n = symB v.cp 2 from by unfold copyB; rw [g.hn]; simp] at this
  have HF : Hid (∀ W, Calls Tryz.prog 74 #[.agg #[.int .i64 v.a, .int .i64 v.b, .slice A m c]] W fun e w' => e = .returned (.bool (fitsB v.a v.b m)) ∧ Below W.heap.size W w') := fun W => refFits_any v.a v.b A m c W (by rw [← g.hm]; exact hml)
  have HFI : (1 ≤ n ∧ n ≤ 64) ∧ symB v.cp 2 = true ∧ 1 ≤ v.need ∧ v.need ≤ (n : Int) ∧ fitsB v.a v.b m = true := by rw [fitB_iff, halfB_iff, g.hn, g.hm, and_assoc] at hq; exact hq
  have HG : Hid (fitsB v.a v.b m = true → ∀ W, Below w.heap.size w W → Calls Tryz.prog 75 #[.agg (cellsB v.com).toArray, .agg #[.int .i64 v.a, .int .i64 v.b, .slice A m c]] W fun e w' => e = .returned (.agg (cellsB (climbS v.com v.a.toNat v.b.toNat v.P).1).toArray) ∧ Below W.heap.size W w') := fun hf W hW => by
    obtain ⟨⟨g1, g2, g3, g4⟩, g5⟩ := fitsB_iff.1 hf
    have := refGives_any v.com v.a.toNat v.b.toNat v.P A c W g.hm g.c16 (by omega) (by omega) (by omega) (by rw [g.hm]; exact g5) (g.P.below hW)
    rwa [Int.toNat_of_nonneg (by omega), Int.toNat_of_nonneg (by omega)] at this
  have HGB : Hid (((climbS v.com v.a.toNat v.b.toNat v.P).1 == v.root) = true) := h1
  have HGL' := Lib.hid (climbS_length v.com v.a.toNat v.b.toNat v.P)
  have HH : Hid (∀ W, Below w.heap.size w W → Calls Tryz.prog 33 #[.slice H k h] W fun e w' => e = .returned (.bool (halfB v.half 1)) ∧ W = w') := fun W hW => isHalf_any H h v.half W g.hk (g.half.below hW)
  have HP : Hid (halfB v.half 1 = true → ∀ W, Below w.heap.size w W → Calls Tryz.prog 64 #[.slice H k h, .agg (cellsB v.nonce).toArray] W fun e w' => (∃ X x, e = .returned (.slice X (k + 17) x) ∧ BR w' X x (openT v.half v.nonce)) ∧ Below W.heap.size W w') := fun hh W hW => refOpening_any v.half v.nonce H h W g.hk (by have := (halfB_iff.1 hh).1.2; rw [g.hk] at this; omega) g.n16 (g.half.below hW)
  have HD : Hid (halfB v.half 1 = true → ∀ X x W, BR W X x (openT v.half v.nonce) → Calls Tryz.prog 63 #[.slice X (k + 17) x] W fun e w' => e = .returned (.agg (cellsB (digS (openT v.half v.nonce))).toArray) ∧ Below W.heap.size W w') := fun hh X x W hX => refDigest_any (openT v.half v.nonce) X x W (by rw [openT_length _ _ g.n16, g.hk]) hX (by have := (halfB_iff.1 hh).1.2; rw [g.hk] at this; omega)
  have HDL := Lib.hid (digS_length (openT v.half v.nonce))
  have HA : Hid (k = n → 1 ≤ n → ∀ W, Below w.heap.size w W → Calls Tryz.prog 76 #[.slice H k h, .slice Y n y] W fun e w' => e = .returned (.int .i64 (agreeN v.half v.cp n : Int)) ∧ Below W.heap.size W w') := fun e h1 W hW => by
    subst e
    exact refAgreements_any H Y h y v.half v.cp W g.hk g.hn h1 (g.half.below hW) (g.cp.below hW)
  generalize symB v.cp 2 = s at HSY HFI
  generalize halfB v.half 1 = hf at HH HP HD
  generalize agreeN v.half v.cp n = z at HA
  generalize (climbS v.com v.a.toNat v.b.toNat v.P).1 = d at HG HGB HGL'
  generalize digS (openT v.half v.nonce) = dg at HD HDL
  generalize openT v.half v.nonce = ot at HP HD
  generalize fitsB v.a v.b m = f at HF HFI HG
  generalize caseC v A m c Y n y H k h = cs at HBX b0 D0 ⊢
  obtain ⟨W0, hW0⟩ : ∃ W, W = w.alloc (.cells cs.toArray 29) := ⟨_, rfl⟩
  rw [← hW0] at HBX b0 D0
  have HW0 := Lib.hid hW0
  obtain ⟨root, com, a, b, P, cp, need, op, half, nonce⟩ := v
  dsimp only at HF HFI HG HGB HR HC HNN HP HBX
  have k35 : W0.cell? ⟨w.heap.size, 35, none⟩ = some (.slice Y n y) := (HBX.out _ D0).c35
  have k36 : W0.cell? ⟨w.heap.size, 36, none⟩ = some (.int .i64 need) := (HBX.out _ D0).c36
  have k32 : W0.cell? ⟨w.heap.size, 32, none⟩ = some (.int .i64 a) := (HBX.out _ D0).pr 0 _ rfl
  have k33 : W0.cell? ⟨w.heap.size, 33, none⟩ = some (.int .i64 b) := (HBX.out _ D0).pr 1 _ rfl
  have k34 : W0.cell? ⟨w.heap.size, 34, none⟩ = some (.slice A m c) := (HBX.out _ D0).pr 2 _ rfl
  have HS : Hid (∀ W, Below W0.heap.size W0 W → W.rangeAt w.heap.size 0 (cellsB root) ∧ W.rangeAt w.heap.size 16 (cellsB com) ∧ W.rangeAt w.heap.size 32 [.int .i64 a, .int .i64 b, .slice A m c] ∧ W.rangeAt w.heap.size 39 (cellsB nonce) ∧ W.cell? ⟨w.heap.size, 35, none⟩ = some (.slice Y n y) ∧ W.cell? ⟨w.heap.size, 36, none⟩ = some (.int .i64 need) ∧ W.cell? ⟨w.heap.size, 37, none⟩ = some (.bool op) ∧ W.cell? ⟨w.heap.size, 38, none⟩ = some (.slice H k h)) := fun W hW => by
    have := HBX.out W hW
    exact ⟨this.root, this.com, this.pr, this.nonce, this.c35, this.c36, this.c37, this.c38⟩
  clear g hnl hkl hml hW0 B0 HBX
  dsimp only at ho
  subst ho
  obtain ⟨⟨h1', h2'⟩, rfl, h3', h4', rfl⟩ := HFI
  have s1 : decide ((n : Int) < 1) = false := by simp; omega
  have s2 : decide ((64 : Int) < (n : Int)) = false := by simp; omega
  have s3 : decide (need < 1) = false := by simp; omega
  have s4 : decide ((n : Int) < need) = false := by simp; omega
  have HN1 := Lib.hid h1'
  have HG' := Lib.hid (HG.out rfl)
  clear hq h1' h2' h3' h4' HG h1
  go_enter Tryz.func24, Tryz.ntmps24
  go_wp2_with (first
    | (go_at_call 34; (first | rw [← HW0.out] | skip); refine (HSY.out _ b0).mono ?_; rintro e w1 ⟨rfl, rfl⟩)
    | (go_at_call 74; refine (HF.out _).mono ?_; rintro e w1 ⟨rfl, hb1⟩; have D1 := bel_on D0 hb1; clear hb1)
    | rw [← HW0.out])
  refine wp_region_noPanic ?_
  refine wp_region_held_drew (S := fun w' => w'.rangeAt w.heap.size 0 (cellsB root) ∧ w'.rangeAt w.heap.size 16 (cellsB com) ∧ w'.rangeAt w.heap.size 32 [.int .i64 a, .int .i64 b, .slice A m c] ∧ w'.rangeAt w.heap.size 39 (cellsB nonce) ∧ w'.cell? ⟨w.heap.size, 35, none⟩ = some (.slice Y n y) ∧ w'.cell? ⟨w.heap.size, 36, none⟩ = some (.int .i64 need) ∧ w'.cell? ⟨w.heap.size, 37, none⟩ = some (.bool false) ∧ w'.cell? ⟨w.heap.size, 38, none⟩ = some (.slice H k h)) (by kernel_rfl) (HS.out _ D1.drew) (fun hS => ?_)
  refine hd_take 0 (_) rfl rfl (by kernel_rfl) (by kernel_rfl) (by kernel_rfl) (fun _ _ _ h => h) (fun w hw => by go_simp <;> rfl) hS ?_
  refine hd_take 2 (_) rfl rfl (by kernel_rfl) (by kernel_rfl) (by kernel_rfl) (fun _ _ _ h => h) (fun w hw => by go_simp <;> rfl) hS ?_
  refine hd_take 5 (_) rfl rfl (by kernel_rfl) (by kernel_rfl) (by kernel_rfl) (fun _ _ _ h => h) (fun w hw => by go_simp <;> rfl) hS ?_
  simp only [List.getElem_toArray, List.getElem_cons_succ, List.getElem_cons_zero, Act.put, List.setIfInBounds_toArray, List.set_cons_zero, List.set_cons_succ]
  refine hd_load 1 w.heap.size 16 (cellsB com) _ _ rfl rfl rfl (by kernel_rfl) (by kernel_rfl) (by kernel_rfl) (fun _ _ _ h => h) rfl (fun w hw => hw.2.1) under_key rfl (key_info HC.out) hS ?_
  refine hd_load 3 w.heap.size 32 ([.int .i64 a, .int .i64 b, .slice A m c]) _ _ rfl rfl rfl (by kernel_rfl) (by kernel_rfl) (by kernel_rfl) (fun _ _ _ h => h) rfl (fun w hw => hw.2.2.1) Tryz.underlying27 rfl (by kernel_rfl) hS ?_
  refine hd_load 6 w.heap.size 0 (cellsB root) _ _ rfl rfl rfl (by kernel_rfl) (by kernel_rfl) (by kernel_rfl) (fun _ _ _ h => h) rfl (fun w hw => hw.1) under_key rfl (key_info HR.out) hS ?_
  simp only [List.getElem_toArray, List.getElem_cons_succ, List.getElem_cons_zero, Act.put, List.setIfInBounds_toArray, List.set_cons_zero, List.set_cons_succ]
  refine hd_calls 4 75 #[.agg (cellsB com).toArray, .agg #[.int .i64 a, .int .i64 b, .slice A m c]] rfl rfl (by kernel_rfl) (by go_simp <;> rfl) ?_
  refine (HG'.out _ (bel_on b0 D1.drew)).mono ?_
  rintro e w4 ⟨rfl, hb4⟩
  have D4 := bel_on D1.drew hb4
  have hS4 := HS.out _ D4
  refine ⟨_, rfl, hS4, ?_⟩
  simp only [List.getElem_toArray, List.getElem_cons_succ, List.getElem_cons_zero, Act.put, List.setIfInBounds_toArray, List.set_cons_zero, List.set_cons_succ]
  refine hd_take 7 (.bool false) rfl rfl (by kernel_rfl) (by kernel_rfl) (by kernel_rfl) (fun _ _ _ h => h) (fun w hw => by have hx := equalIn_keys w d root HGL' HR; have hy := HGB.out; simp [go_sem, hx, hy]) hS4 ?_
  simp only [List.getElem_toArray, List.getElem_cons_succ, List.getElem_cons_zero, Act.put, List.setIfInBounds_toArray, List.set_cons_zero, List.set_cons_succ]
  refine wpAnyH_done (by kernel_rfl) (NoPanic.normal ?_) _
  clear hS hS4 hb4 HGB
  go_wp2_with fail
  refine wp_region_noPanic ?_
  refine wp_region_held_drew (S := fun w' => w'.rangeAt w.heap.size 0 (cellsB root) ∧ w'.rangeAt w.heap.size 16 (cellsB com) ∧ w'.rangeAt w.heap.size 32 [.int .i64 a, .int .i64 b, .slice A m c] ∧ w'.rangeAt w.heap.size 39 (cellsB nonce) ∧ w'.cell? ⟨w.heap.size, 35, none⟩ = some (.slice Y n y) ∧ w'.cell? ⟨w.heap.size, 36, none⟩ = some (.int .i64 need) ∧ w'.cell? ⟨w.heap.size, 37, none⟩ = some (.bool false) ∧ w'.cell? ⟨w.heap.size, 38, none⟩ = some (.slice H k h)) (by kernel_rfl) (HS.out _ D4.drew) (fun hS => ?_)
  refine hd_take 0 (_) rfl rfl (by kernel_rfl) (by kernel_rfl) (by kernel_rfl) (fun _ _ _ h => h) (fun w hw => by go_simp <;> rfl) hS ?_
  simp only [List.getElem_toArray, List.getElem_cons_succ, List.getElem_cons_zero, Act.put, List.setIfInBounds_toArray, List.set_cons_zero, List.set_cons_succ]
  refine hd_take 1 (.bool false) rfl rfl (by kernel_rfl) (by kernel_rfl) (by kernel_rfl) (fun _ _ _ h => h) (fun w hw => by have hx := hw.2.2.2.2.2.2.1; simp [go_sem, hx]) hS ?_
  simp only [List.getElem_toArray, List.getElem_cons_succ, List.getElem_cons_zero, Act.put, List.setIfInBounds_toArray, List.set_cons_zero, List.set_cons_succ]
  refine hd_take 2 (.bool true) rfl rfl (by kernel_rfl) (by kernel_rfl) (by kernel_rfl) (fun _ _ _ h => h) (fun w hw => by go_simp <;> rfl) hS ?_
  simp only [List.getElem_toArray, List.getElem_cons_succ, List.getElem_cons_zero, Act.put, List.setIfInBounds_toArray, List.set_cons_zero, List.set_cons_succ]
  refine hd_take 3 (_) rfl rfl (by kernel_rfl) (by kernel_rfl) (by kernel_rfl) (fun _ _ _ h => h) (fun w hw => by go_simp <;> rfl) hS ?_
  simp only [List.getElem_toArray, List.getElem_cons_succ, List.getElem_cons_zero, Act.put, List.setIfInBounds_toArray, List.set_cons_zero, List.set_cons_succ]
  refine hg_skip 4 rfl (by rfl) (by kernel_rfl) (by kernel_rfl) (by kernel_rfl) (fun _ _ _ h => h) hS ?_
  simp only [List.getElem_toArray, List.getElem_cons_succ, List.getElem_cons_zero, Act.put, List.setIfInBounds_toArray, List.set_cons_zero, List.set_cons_succ]
  refine hg_skip 5 rfl (by rfl) (by kernel_rfl) (by kernel_rfl) (by kernel_rfl) (fun _ _ _ h => h) hS ?_
  simp only [List.getElem_toArray, List.getElem_cons_succ, List.getElem_cons_zero, Act.put, List.setIfInBounds_toArray, List.set_cons_zero, List.set_cons_succ]
  refine hg_skip 6 rfl (by rfl) (by kernel_rfl) (by kernel_rfl) (by kernel_rfl) (fun _ _ _ h => h) hS ?_
  simp only [List.getElem_toArray, List.getElem_cons_succ, List.getElem_cons_zero, Act.put, List.setIfInBounds_toArray, List.set_cons_zero, List.set_cons_succ]
  refine hg_skip 7 rfl (by rfl) (by kernel_rfl) (by kernel_rfl) (by kernel_rfl) (fun _ _ _ h => h) hS ?_
  simp only [List.getElem_toArray, List.getElem_cons_succ, List.getElem_cons_zero, Act.put, List.setIfInBounds_toArray, List.set_cons_zero, List.set_cons_succ]
  refine hg_skip 8 rfl (by rfl) (by kernel_rfl) (by kernel_rfl) (by kernel_rfl) (fun _ _ _ h => h) hS ?_
  simp only [List.getElem_toArray, List.getElem_cons_succ, List.getElem_cons_zero, Act.put, List.setIfInBounds_toArray, List.set_cons_zero, List.set_cons_succ]
  refine hg_skip 9 rfl (by rfl) (by kernel_rfl) (by kernel_rfl) (by kernel_rfl) (fun _ _ _ h => h) hS ?_
  simp only [List.getElem_toArray, List.getElem_cons_succ, List.getElem_cons_zero, Act.put, List.setIfInBounds_toArray, List.set_cons_zero, List.set_cons_succ]
  refine hg_skip 10 rfl (by rfl) (by kernel_rfl) (by kernel_rfl) (by kernel_rfl) (fun _ _ _ h => h) hS ?_
  simp only [List.getElem_toArray, List.getElem_cons_succ, List.getElem_cons_zero, Act.put, List.setIfInBounds_toArray, List.set_cons_zero, List.set_cons_succ]
  refine hd_take 11 (_) rfl rfl (by kernel_rfl) (by kernel_rfl) (by kernel_rfl) (fun _ _ _ h => h) (fun w hw => by go_simp <;> rfl) hS ?_
  simp only [List.getElem_toArray, List.getElem_cons_succ, List.getElem_cons_zero, Act.put, List.setIfInBounds_toArray, List.set_cons_zero, List.set_cons_succ]
  refine hd_take 12 (_) rfl rfl (by kernel_rfl) (by kernel_rfl) (by kernel_rfl) (fun _ _ _ h => h) (fun w hw => by go_simp <;> rfl) hS ?_
  simp only [List.getElem_toArray, List.getElem_cons_succ, List.getElem_cons_zero, Act.put, List.setIfInBounds_toArray, List.set_cons_zero, List.set_cons_succ]
  refine hg_skip 13 rfl (by rfl) (by kernel_rfl) (by kernel_rfl) (by kernel_rfl) (fun _ _ _ h => h) hS ?_
  simp only [List.getElem_toArray, List.getElem_cons_succ, List.getElem_cons_zero, Act.put, List.setIfInBounds_toArray, List.set_cons_zero, List.set_cons_succ]
  refine hg_skip 14 rfl (by rfl) (by kernel_rfl) (by kernel_rfl) (by kernel_rfl) (fun _ _ _ h => h) hS ?_
  simp only [List.getElem_toArray, List.getElem_cons_succ, List.getElem_cons_zero, Act.put, List.setIfInBounds_toArray, List.set_cons_zero, List.set_cons_succ]
  refine hg_skip 15 rfl (by rfl) (by kernel_rfl) (by kernel_rfl) (by kernel_rfl) (fun _ _ _ h => h) hS ?_
  simp only [List.getElem_toArray, List.getElem_cons_succ, List.getElem_cons_zero, Act.put, List.setIfInBounds_toArray, List.set_cons_zero, List.set_cons_succ]
  refine hg_skip 16 rfl (by rfl) (by kernel_rfl) (by kernel_rfl) (by kernel_rfl) (fun _ _ _ h => h) hS ?_
  simp only [List.getElem_toArray, List.getElem_cons_succ, List.getElem_cons_zero, Act.put, List.setIfInBounds_toArray, List.set_cons_zero, List.set_cons_succ]
  refine hd_take 17 (_) rfl rfl (by kernel_rfl) (by kernel_rfl) (by kernel_rfl) (fun _ _ _ h => h) (fun w hw => by go_simp <;> rfl) hS ?_
  simp only [List.getElem_toArray, List.getElem_cons_succ, List.getElem_cons_zero, Act.put, List.setIfInBounds_toArray, List.set_cons_zero, List.set_cons_succ]
  refine hd_take 18 (_) rfl rfl (by kernel_rfl) (by kernel_rfl) (by kernel_rfl) (fun _ _ _ h => h) (fun w hw => by go_simp <;> rfl) hS ?_
  simp only [List.getElem_toArray, List.getElem_cons_succ, List.getElem_cons_zero, Act.put, List.setIfInBounds_toArray, List.set_cons_zero, List.set_cons_succ]
  refine hg_skip 19 rfl (by rfl) (by kernel_rfl) (by kernel_rfl) (by kernel_rfl) (fun _ _ _ h => h) hS ?_
  simp only [List.getElem_toArray, List.getElem_cons_succ, List.getElem_cons_zero, Act.put, List.setIfInBounds_toArray, List.set_cons_zero, List.set_cons_succ]
  refine hg_skip 20 rfl (by rfl) (by kernel_rfl) (by kernel_rfl) (by kernel_rfl) (fun _ _ _ h => h) hS ?_
  simp only [List.getElem_toArray, List.getElem_cons_succ, List.getElem_cons_zero, Act.put, List.setIfInBounds_toArray, List.set_cons_zero, List.set_cons_succ]
  refine hg_skip 21 rfl (by rfl) (by kernel_rfl) (by kernel_rfl) (by kernel_rfl) (fun _ _ _ h => h) hS ?_
  simp only [List.getElem_toArray, List.getElem_cons_succ, List.getElem_cons_zero, Act.put, List.setIfInBounds_toArray, List.set_cons_zero, List.set_cons_succ]
  refine hg_skip 22 rfl (by rfl) (by kernel_rfl) (by kernel_rfl) (by kernel_rfl) (fun _ _ _ h => h) hS ?_
  simp only [List.getElem_toArray, List.getElem_cons_succ, List.getElem_cons_zero, Act.put, List.setIfInBounds_toArray, List.set_cons_zero, List.set_cons_succ]
  refine hg_skip 23 rfl (by rfl) (by kernel_rfl) (by kernel_rfl) (by kernel_rfl) (fun _ _ _ h => h) hS ?_
  simp only [List.getElem_toArray, List.getElem_cons_succ, List.getElem_cons_zero, Act.put, List.setIfInBounds_toArray, List.set_cons_zero, List.set_cons_succ]
  refine hg_skip 24 rfl (by rfl) (by kernel_rfl) (by kernel_rfl) (by kernel_rfl) (fun _ _ _ h => h) hS ?_
  simp only [List.getElem_toArray, List.getElem_cons_succ, List.getElem_cons_zero, Act.put, List.setIfInBounds_toArray, List.set_cons_zero, List.set_cons_succ]
  refine hg_skip 25 rfl (by rfl) (by kernel_rfl) (by kernel_rfl) (by kernel_rfl) (fun _ _ _ h => h) hS ?_
  simp only [List.getElem_toArray, List.getElem_cons_succ, List.getElem_cons_zero, Act.put, List.setIfInBounds_toArray, List.set_cons_zero, List.set_cons_succ]
  refine hg_skip 26 rfl (by rfl) (by kernel_rfl) (by kernel_rfl) (by kernel_rfl) (fun _ _ _ h => h) hS ?_
  simp only [List.getElem_toArray, List.getElem_cons_succ, List.getElem_cons_zero, Act.put, List.setIfInBounds_toArray, List.set_cons_zero, List.set_cons_succ]
  refine hg_skip 27 rfl (by rfl) (by kernel_rfl) (by kernel_rfl) (by kernel_rfl) (fun _ _ _ h => h) hS ?_
  simp only [List.getElem_toArray, List.getElem_cons_succ, List.getElem_cons_zero, Act.put, List.setIfInBounds_toArray, List.set_cons_zero, List.set_cons_succ]
  refine hd_take 28 (_) rfl rfl (by kernel_rfl) (by kernel_rfl) (by kernel_rfl) (fun _ _ _ h => h) (fun w hw => by go_simp <;> rfl) hS ?_
  simp only [List.getElem_toArray, List.getElem_cons_succ, List.getElem_cons_zero, Act.put, List.setIfInBounds_toArray, List.set_cons_zero, List.set_cons_succ]
  refine wpAnyH_done (by kernel_rfl) (NoPanic.normal ?_) _
  clear hS
  go_wp2_with fail
  go_ret2
  exact ⟨by first | rfl | simp, bel_on b0 D4.drew⟩

set_option maxHeartbeats 8000000 in
set_option maxRecDepth 100000 in
theorem refJudge_long (v : CV) (A : Option Addr) (m c : Nat) (Y : Option Addr) (n y : Nat) (H : Option Addr) (k h : Nat) (w : World) (g : CaseOK w v A m c Y n y H k h) (hq : fitB v = true) (h1 : givesB v = true) (ho : v.op = true) (hkn : ¬ k = n) :
    Calls Tryz.prog 24 #[.agg (caseC v A m c Y n y H k h).toArray] w fun e w' => e = .returned (.tuple #[.int .u8 2, .int .i64 0]) ∧ Below w.heap.size w w' := by
  have b0 := alloc_bel w (.cells (caseC v A m c Y n y H k h).toArray 29)
  have B0 := Blk.new w 29 (caseC v A m c Y n y H k h).toArray
  have HBX : Hid (∀ W, Below (w.alloc (.cells (caseC v A m c Y n y H k h).toArray 29)).heap.size (w.alloc (.cells (caseC v A m c Y n y H k h).toArray 29)) W → Box W w.heap.size v A m c Y n y H k h) := fun W hW => box_of (B0.below' hW) g.r16 g.c16 g.n16
  have D0 : Below (w.alloc (.cells (caseC v A m c Y n y H k h).toArray 29)).heap.size (w.alloc (.cells (caseC v A m c Y n y H k h).toArray 29)) (w.alloc (.cells (caseC v A m c Y n y H k h).toArray 29)) := Below.refl _ _
  have hnl := g.cp.len
  have hkl := g.half.len
  have hml := g.P.len
  have hni : (n : Int) ≤ 140737488351232 := by rw [g.hn] at hnl; omega
  have hki : (k : Int) ≤ 140737488351232 := by rw [g.hk] at hkl; omega
  have HR := Lib.hid g.r16
  have HC := Lib.hid g.c16
  have HNN := Lib.hid g.n16
  have HSY : Hid (∀ W, Below w.heap.size w W → Calls Tryz.prog 34 #[.slice Y n y, .int .i64 (n : Int)] W fun e w' => e = .returned (.bool (symB v.cp 2)) ∧ W = w') := fun W hW => by
    have := refIsCopy_any Y y v.cp n W g.hn (g.cp.below hW) (by rw [g.hn] at hnl; omega)
    rwa [show copyB v.cp n = symB v.cp 2 from by unfold copyB; rw [g.hn]; simp] at this
  have HF : Hid (∀ W, Calls Tryz.prog 74 #[.agg #[.int .i64 v.a, .int .i64 v.b, .slice A m c]] W fun e w' => e = .returned (.bool (fitsB v.a v.b m)) ∧ Below W.heap.size W w') := fun W => refFits_any v.a v.b A m c W (by rw [← g.hm]; exact hml)
  have HFI : (1 ≤ n ∧ n ≤ 64) ∧ symB v.cp 2 = true ∧ 1 ≤ v.need ∧ v.need ≤ (n : Int) ∧ fitsB v.a v.b m = true := by rw [fitB_iff, halfB_iff, g.hn, g.hm, and_assoc] at hq; exact hq
  have HG : Hid (fitsB v.a v.b m = true → ∀ W, Below w.heap.size w W → Calls Tryz.prog 75 #[.agg (cellsB v.com).toArray, .agg #[.int .i64 v.a, .int .i64 v.b, .slice A m c]] W fun e w' => e = .returned (.agg (cellsB (climbS v.com v.a.toNat v.b.toNat v.P).1).toArray) ∧ Below W.heap.size W w') := fun hf W hW => by
    obtain ⟨⟨g1, g2, g3, g4⟩, g5⟩ := fitsB_iff.1 hf
    have := refGives_any v.com v.a.toNat v.b.toNat v.P A c W g.hm g.c16 (by omega) (by omega) (by omega) (by rw [g.hm]; exact g5) (g.P.below hW)
    rwa [Int.toNat_of_nonneg (by omega), Int.toNat_of_nonneg (by omega)] at this
  have HGB : Hid (((climbS v.com v.a.toNat v.b.toNat v.P).1 == v.root) = true) := h1
  have HGL' := Lib.hid (climbS_length v.com v.a.toNat v.b.toNat v.P)
  have HH : Hid (∀ W, Below w.heap.size w W → Calls Tryz.prog 33 #[.slice H k h] W fun e w' => e = .returned (.bool (halfB v.half 1)) ∧ W = w') := fun W hW => isHalf_any H h v.half W g.hk (g.half.below hW)
  have HP : Hid (halfB v.half 1 = true → ∀ W, Below w.heap.size w W → Calls Tryz.prog 64 #[.slice H k h, .agg (cellsB v.nonce).toArray] W fun e w' => (∃ X x, e = .returned (.slice X (k + 17) x) ∧ BR w' X x (openT v.half v.nonce)) ∧ Below W.heap.size W w') := fun hh W hW => refOpening_any v.half v.nonce H h W g.hk (by have := (halfB_iff.1 hh).1.2; rw [g.hk] at this; omega) g.n16 (g.half.below hW)
  have HD : Hid (halfB v.half 1 = true → ∀ X x W, BR W X x (openT v.half v.nonce) → Calls Tryz.prog 63 #[.slice X (k + 17) x] W fun e w' => e = .returned (.agg (cellsB (digS (openT v.half v.nonce))).toArray) ∧ Below W.heap.size W w') := fun hh X x W hX => refDigest_any (openT v.half v.nonce) X x W (by rw [openT_length _ _ g.n16, g.hk]) hX (by have := (halfB_iff.1 hh).1.2; rw [g.hk] at this; omega)
  have HDL := Lib.hid (digS_length (openT v.half v.nonce))
  have HA : Hid (k = n → 1 ≤ n → ∀ W, Below w.heap.size w W → Calls Tryz.prog 76 #[.slice H k h, .slice Y n y] W fun e w' => e = .returned (.int .i64 (agreeN v.half v.cp n : Int)) ∧ Below W.heap.size W w') := fun e h1 W hW => by
    subst e
    exact refAgreements_any H Y h y v.half v.cp W g.hk g.hn h1 (g.half.below hW) (g.cp.below hW)
  generalize symB v.cp 2 = s at HSY HFI
  generalize halfB v.half 1 = hf at HH HP HD
  generalize agreeN v.half v.cp n = z at HA
  generalize (climbS v.com v.a.toNat v.b.toNat v.P).1 = d at HG HGB HGL'
  generalize digS (openT v.half v.nonce) = dg at HD HDL
  generalize openT v.half v.nonce = ot at HP HD
  generalize fitsB v.a v.b m = f at HF HFI HG
  generalize caseC v A m c Y n y H k h = cs at HBX b0 D0 ⊢
  obtain ⟨W0, hW0⟩ : ∃ W, W = w.alloc (.cells cs.toArray 29) := ⟨_, rfl⟩
  rw [← hW0] at HBX b0 D0
  have HW0 := Lib.hid hW0
  obtain ⟨root, com, a, b, P, cp, need, op, half, nonce⟩ := v
  dsimp only at HF HFI HG HGB HR HC HNN HP HBX
  have k35 : W0.cell? ⟨w.heap.size, 35, none⟩ = some (.slice Y n y) := (HBX.out _ D0).c35
  have k36 : W0.cell? ⟨w.heap.size, 36, none⟩ = some (.int .i64 need) := (HBX.out _ D0).c36
  have k32 : W0.cell? ⟨w.heap.size, 32, none⟩ = some (.int .i64 a) := (HBX.out _ D0).pr 0 _ rfl
  have k33 : W0.cell? ⟨w.heap.size, 33, none⟩ = some (.int .i64 b) := (HBX.out _ D0).pr 1 _ rfl
  have k34 : W0.cell? ⟨w.heap.size, 34, none⟩ = some (.slice A m c) := (HBX.out _ D0).pr 2 _ rfl
  have HS : Hid (∀ W, Below W0.heap.size W0 W → W.rangeAt w.heap.size 0 (cellsB root) ∧ W.rangeAt w.heap.size 16 (cellsB com) ∧ W.rangeAt w.heap.size 32 [.int .i64 a, .int .i64 b, .slice A m c] ∧ W.rangeAt w.heap.size 39 (cellsB nonce) ∧ W.cell? ⟨w.heap.size, 35, none⟩ = some (.slice Y n y) ∧ W.cell? ⟨w.heap.size, 36, none⟩ = some (.int .i64 need) ∧ W.cell? ⟨w.heap.size, 37, none⟩ = some (.bool op) ∧ W.cell? ⟨w.heap.size, 38, none⟩ = some (.slice H k h)) := fun W hW => by
    have := HBX.out W hW
    exact ⟨this.root, this.com, this.pr, this.nonce, this.c35, this.c36, this.c37, this.c38⟩
  clear g hnl hkl hml hW0 B0 HBX
  dsimp only at ho
  subst ho
  have e1 : ((k : Int) == (n : Int)) = false := by simp; omega
  have HNE := Lib.hid hkn
  clear hkn
  obtain ⟨⟨h1', h2'⟩, rfl, h3', h4', rfl⟩ := HFI
  have s1 : decide ((n : Int) < 1) = false := by simp; omega
  have s2 : decide ((64 : Int) < (n : Int)) = false := by simp; omega
  have s3 : decide (need < 1) = false := by simp; omega
  have s4 : decide ((n : Int) < need) = false := by simp; omega
  have HN1 := Lib.hid h1'
  have HG' := Lib.hid (HG.out rfl)
  clear hq h1' h2' h3' h4' HG h1
  go_enter Tryz.func24, Tryz.ntmps24
  go_wp2_with (first
    | (go_at_call 34; (first | rw [← HW0.out] | skip); refine (HSY.out _ b0).mono ?_; rintro e w1 ⟨rfl, rfl⟩)
    | (go_at_call 74; refine (HF.out _).mono ?_; rintro e w1 ⟨rfl, hb1⟩; have D1 := bel_on D0 hb1; clear hb1)
    | rw [← HW0.out])
  refine wp_region_noPanic ?_
  refine wp_region_held_drew (S := fun w' => w'.rangeAt w.heap.size 0 (cellsB root) ∧ w'.rangeAt w.heap.size 16 (cellsB com) ∧ w'.rangeAt w.heap.size 32 [.int .i64 a, .int .i64 b, .slice A m c] ∧ w'.rangeAt w.heap.size 39 (cellsB nonce) ∧ w'.cell? ⟨w.heap.size, 35, none⟩ = some (.slice Y n y) ∧ w'.cell? ⟨w.heap.size, 36, none⟩ = some (.int .i64 need) ∧ w'.cell? ⟨w.heap.size, 37, none⟩ = some (.bool true) ∧ w'.cell? ⟨w.heap.size, 38, none⟩ = some (.slice H k h)) (by kernel_rfl) (HS.out _ D1.drew) (fun hS => ?_)
  refine hd_take 0 (_) rfl rfl (by kernel_rfl) (by kernel_rfl) (by kernel_rfl) (fun _ _ _ h => h) (fun w hw => by go_simp <;> rfl) hS ?_
  refine hd_take 2 (_) rfl rfl (by kernel_rfl) (by kernel_rfl) (by kernel_rfl) (fun _ _ _ h => h) (fun w hw => by go_simp <;> rfl) hS ?_
  refine hd_take 5 (_) rfl rfl (by kernel_rfl) (by kernel_rfl) (by kernel_rfl) (fun _ _ _ h => h) (fun w hw => by go_simp <;> rfl) hS ?_
  simp only [List.getElem_toArray, List.getElem_cons_succ, List.getElem_cons_zero, Act.put, List.setIfInBounds_toArray, List.set_cons_zero, List.set_cons_succ]
  refine hd_load 1 w.heap.size 16 (cellsB com) _ _ rfl rfl rfl (by kernel_rfl) (by kernel_rfl) (by kernel_rfl) (fun _ _ _ h => h) rfl (fun w hw => hw.2.1) under_key rfl (key_info HC.out) hS ?_
  refine hd_load 3 w.heap.size 32 ([.int .i64 a, .int .i64 b, .slice A m c]) _ _ rfl rfl rfl (by kernel_rfl) (by kernel_rfl) (by kernel_rfl) (fun _ _ _ h => h) rfl (fun w hw => hw.2.2.1) Tryz.underlying27 rfl (by kernel_rfl) hS ?_
  refine hd_load 6 w.heap.size 0 (cellsB root) _ _ rfl rfl rfl (by kernel_rfl) (by kernel_rfl) (by kernel_rfl) (fun _ _ _ h => h) rfl (fun w hw => hw.1) under_key rfl (key_info HR.out) hS ?_
  simp only [List.getElem_toArray, List.getElem_cons_succ, List.getElem_cons_zero, Act.put, List.setIfInBounds_toArray, List.set_cons_zero, List.set_cons_succ]
  refine hd_calls 4 75 #[.agg (cellsB com).toArray, .agg #[.int .i64 a, .int .i64 b, .slice A m c]] rfl rfl (by kernel_rfl) (by go_simp <;> rfl) ?_
  refine (HG'.out _ (bel_on b0 D1.drew)).mono ?_
  rintro e w4 ⟨rfl, hb4⟩
  have D4 := bel_on D1.drew hb4
  have hS4 := HS.out _ D4
  refine ⟨_, rfl, hS4, ?_⟩
  simp only [List.getElem_toArray, List.getElem_cons_succ, List.getElem_cons_zero, Act.put, List.setIfInBounds_toArray, List.set_cons_zero, List.set_cons_succ]
  refine hd_take 7 (.bool false) rfl rfl (by kernel_rfl) (by kernel_rfl) (by kernel_rfl) (fun _ _ _ h => h) (fun w hw => by have hx := equalIn_keys w d root HGL' HR; have hy := HGB.out; simp [go_sem, hx, hy]) hS4 ?_
  simp only [List.getElem_toArray, List.getElem_cons_succ, List.getElem_cons_zero, Act.put, List.setIfInBounds_toArray, List.set_cons_zero, List.set_cons_succ]
  refine wpAnyH_done (by kernel_rfl) (NoPanic.normal ?_) _
  clear hS hS4 hb4 HGB
  go_wp2_with fail
  refine wp_region_noPanic ?_
  refine wp_region_held_drew (S := fun w' => w'.rangeAt w.heap.size 0 (cellsB root) ∧ w'.rangeAt w.heap.size 16 (cellsB com) ∧ w'.rangeAt w.heap.size 32 [.int .i64 a, .int .i64 b, .slice A m c] ∧ w'.rangeAt w.heap.size 39 (cellsB nonce) ∧ w'.cell? ⟨w.heap.size, 35, none⟩ = some (.slice Y n y) ∧ w'.cell? ⟨w.heap.size, 36, none⟩ = some (.int .i64 need) ∧ w'.cell? ⟨w.heap.size, 37, none⟩ = some (.bool true) ∧ w'.cell? ⟨w.heap.size, 38, none⟩ = some (.slice H k h)) (by kernel_rfl) (HS.out _ D4.drew) (fun hS => ?_)
  refine hd_take 0 (_) rfl rfl (by kernel_rfl) (by kernel_rfl) (by kernel_rfl) (fun _ _ _ h => h) (fun w hw => by go_simp <;> rfl) hS ?_
  simp only [List.getElem_toArray, List.getElem_cons_succ, List.getElem_cons_zero, Act.put, List.setIfInBounds_toArray, List.set_cons_zero, List.set_cons_succ]
  refine hd_take 1 (.bool true) rfl rfl (by kernel_rfl) (by kernel_rfl) (by kernel_rfl) (fun _ _ _ h => h) (fun w hw => by have hx := hw.2.2.2.2.2.2.1; simp [go_sem, hx]) hS ?_
  simp only [List.getElem_toArray, List.getElem_cons_succ, List.getElem_cons_zero, Act.put, List.setIfInBounds_toArray, List.set_cons_zero, List.set_cons_succ]
  refine hd_take 2 (.bool false) rfl rfl (by kernel_rfl) (by kernel_rfl) (by kernel_rfl) (fun _ _ _ h => h) (fun w hw => by go_simp <;> rfl) hS ?_
  simp only [List.getElem_toArray, List.getElem_cons_succ, List.getElem_cons_zero, Act.put, List.setIfInBounds_toArray, List.set_cons_zero, List.set_cons_succ]
  refine hd_take 3 (_) rfl rfl (by kernel_rfl) (by kernel_rfl) (by kernel_rfl) (fun _ _ _ h => h) (fun w hw => by go_simp <;> rfl) hS ?_
  simp only [List.getElem_toArray, List.getElem_cons_succ, List.getElem_cons_zero, Act.put, List.setIfInBounds_toArray, List.set_cons_zero, List.set_cons_succ]
  refine hg_take 4 (_) rfl rfl (by kernel_rfl) (by kernel_rfl) (by kernel_rfl) (fun _ _ _ h => h) (fun w hw => by go_simp <;> rfl) hS ?_
  refine hg_take 7 (_) rfl rfl (by kernel_rfl) (by kernel_rfl) (by kernel_rfl) (fun _ _ _ h => h) (fun w hw => by go_simp <;> rfl) hS ?_
  simp only [List.getElem_toArray, List.getElem_cons_succ, List.getElem_cons_zero, Act.put, List.setIfInBounds_toArray, List.set_cons_zero, List.set_cons_succ]
  refine hg_take 5 (.slice H k h) rfl rfl (by kernel_rfl) (by kernel_rfl) (by kernel_rfl) (fun _ _ _ h => h) (fun w hw => by have hx := hw.2.2.2.2.2.2.2; simp [go_sem, hx]) hS ?_
  refine hg_take 8 (.slice Y n y) rfl rfl (by kernel_rfl) (by kernel_rfl) (by kernel_rfl) (fun _ _ _ h => h) (fun w hw => by have hx := hw.2.2.2.2.1; simp [go_sem, hx]) hS ?_
  simp only [List.getElem_toArray, List.getElem_cons_succ, List.getElem_cons_zero, Act.put, List.setIfInBounds_toArray, List.set_cons_zero, List.set_cons_succ]
  refine hg_take 6 (_) rfl rfl (by kernel_rfl) (by kernel_rfl) (by kernel_rfl) (fun _ _ _ h => h) (fun w hw => by go_simp <;> rfl) hS ?_
  refine hg_take 9 (_) rfl rfl (by kernel_rfl) (by kernel_rfl) (by kernel_rfl) (fun _ _ _ h => h) (fun w hw => by go_simp <;> rfl) hS ?_
  simp only [List.getElem_toArray, List.getElem_cons_succ, List.getElem_cons_zero, Act.put, List.setIfInBounds_toArray, List.set_cons_zero, List.set_cons_succ]
  refine hg_take 10 (.bool true) rfl rfl (by kernel_rfl) (by kernel_rfl) (by kernel_rfl) (fun _ _ _ h => h) (fun w hw => by have hx := HNE.out; simp [go_sem]; omega) hS ?_
  simp only [List.getElem_toArray, List.getElem_cons_succ, List.getElem_cons_zero, Act.put, List.setIfInBounds_toArray, List.set_cons_zero, List.set_cons_succ]
  refine hd_take 11 (_) rfl rfl (by kernel_rfl) (by kernel_rfl) (by kernel_rfl) (fun _ _ _ h => h) (fun w hw => by go_simp <;> rfl) hS ?_
  simp only [List.getElem_toArray, List.getElem_cons_succ, List.getElem_cons_zero, Act.put, List.setIfInBounds_toArray, List.set_cons_zero, List.set_cons_succ]
  refine hd_take 12 (_) rfl rfl (by kernel_rfl) (by kernel_rfl) (by kernel_rfl) (fun _ _ _ h => h) (fun w hw => by go_simp <;> rfl) hS ?_
  simp only [List.getElem_toArray, List.getElem_cons_succ, List.getElem_cons_zero, Act.put, List.setIfInBounds_toArray, List.set_cons_zero, List.set_cons_succ]
  refine hg_skip 13 rfl (by rfl) (by kernel_rfl) (by kernel_rfl) (by kernel_rfl) (fun _ _ _ h => h) hS ?_
  simp only [List.getElem_toArray, List.getElem_cons_succ, List.getElem_cons_zero, Act.put, List.setIfInBounds_toArray, List.set_cons_zero, List.set_cons_succ]
  refine hg_skip 14 rfl (by rfl) (by kernel_rfl) (by kernel_rfl) (by kernel_rfl) (fun _ _ _ h => h) hS ?_
  simp only [List.getElem_toArray, List.getElem_cons_succ, List.getElem_cons_zero, Act.put, List.setIfInBounds_toArray, List.set_cons_zero, List.set_cons_succ]
  refine hg_skip 15 rfl (by rfl) (by kernel_rfl) (by kernel_rfl) (by kernel_rfl) (fun _ _ _ h => h) hS ?_
  simp only [List.getElem_toArray, List.getElem_cons_succ, List.getElem_cons_zero, Act.put, List.setIfInBounds_toArray, List.set_cons_zero, List.set_cons_succ]
  refine hg_skip 16 rfl (by rfl) (by kernel_rfl) (by kernel_rfl) (by kernel_rfl) (fun _ _ _ h => h) hS ?_
  simp only [List.getElem_toArray, List.getElem_cons_succ, List.getElem_cons_zero, Act.put, List.setIfInBounds_toArray, List.set_cons_zero, List.set_cons_succ]
  refine hd_take 17 (_) rfl rfl (by kernel_rfl) (by kernel_rfl) (by kernel_rfl) (fun _ _ _ h => h) (fun w hw => by go_simp <;> rfl) hS ?_
  simp only [List.getElem_toArray, List.getElem_cons_succ, List.getElem_cons_zero, Act.put, List.setIfInBounds_toArray, List.set_cons_zero, List.set_cons_succ]
  refine hd_take 18 (_) rfl rfl (by kernel_rfl) (by kernel_rfl) (by kernel_rfl) (fun _ _ _ h => h) (fun w hw => by go_simp <;> rfl) hS ?_
  simp only [List.getElem_toArray, List.getElem_cons_succ, List.getElem_cons_zero, Act.put, List.setIfInBounds_toArray, List.set_cons_zero, List.set_cons_succ]
  refine hg_skip 19 rfl (by rfl) (by kernel_rfl) (by kernel_rfl) (by kernel_rfl) (fun _ _ _ h => h) hS ?_
  simp only [List.getElem_toArray, List.getElem_cons_succ, List.getElem_cons_zero, Act.put, List.setIfInBounds_toArray, List.set_cons_zero, List.set_cons_succ]
  refine hg_skip 20 rfl (by rfl) (by kernel_rfl) (by kernel_rfl) (by kernel_rfl) (fun _ _ _ h => h) hS ?_
  simp only [List.getElem_toArray, List.getElem_cons_succ, List.getElem_cons_zero, Act.put, List.setIfInBounds_toArray, List.set_cons_zero, List.set_cons_succ]
  refine hg_skip 21 rfl (by rfl) (by kernel_rfl) (by kernel_rfl) (by kernel_rfl) (fun _ _ _ h => h) hS ?_
  simp only [List.getElem_toArray, List.getElem_cons_succ, List.getElem_cons_zero, Act.put, List.setIfInBounds_toArray, List.set_cons_zero, List.set_cons_succ]
  refine hg_skip 22 rfl (by rfl) (by kernel_rfl) (by kernel_rfl) (by kernel_rfl) (fun _ _ _ h => h) hS ?_
  simp only [List.getElem_toArray, List.getElem_cons_succ, List.getElem_cons_zero, Act.put, List.setIfInBounds_toArray, List.set_cons_zero, List.set_cons_succ]
  refine hg_skip 23 rfl (by rfl) (by kernel_rfl) (by kernel_rfl) (by kernel_rfl) (fun _ _ _ h => h) hS ?_
  simp only [List.getElem_toArray, List.getElem_cons_succ, List.getElem_cons_zero, Act.put, List.setIfInBounds_toArray, List.set_cons_zero, List.set_cons_succ]
  refine hg_skip 24 rfl (by rfl) (by kernel_rfl) (by kernel_rfl) (by kernel_rfl) (fun _ _ _ h => h) hS ?_
  simp only [List.getElem_toArray, List.getElem_cons_succ, List.getElem_cons_zero, Act.put, List.setIfInBounds_toArray, List.set_cons_zero, List.set_cons_succ]
  refine hg_skip 25 rfl (by rfl) (by kernel_rfl) (by kernel_rfl) (by kernel_rfl) (fun _ _ _ h => h) hS ?_
  simp only [List.getElem_toArray, List.getElem_cons_succ, List.getElem_cons_zero, Act.put, List.setIfInBounds_toArray, List.set_cons_zero, List.set_cons_succ]
  refine hg_skip 26 rfl (by rfl) (by kernel_rfl) (by kernel_rfl) (by kernel_rfl) (fun _ _ _ h => h) hS ?_
  simp only [List.getElem_toArray, List.getElem_cons_succ, List.getElem_cons_zero, Act.put, List.setIfInBounds_toArray, List.set_cons_zero, List.set_cons_succ]
  refine hg_skip 27 rfl (by rfl) (by kernel_rfl) (by kernel_rfl) (by kernel_rfl) (fun _ _ _ h => h) hS ?_
  simp only [List.getElem_toArray, List.getElem_cons_succ, List.getElem_cons_zero, Act.put, List.setIfInBounds_toArray, List.set_cons_zero, List.set_cons_succ]
  refine hd_take 28 (_) rfl rfl (by kernel_rfl) (by kernel_rfl) (by kernel_rfl) (fun _ _ _ h => h) (fun w hw => by go_simp <;> rfl) hS ?_
  simp only [List.getElem_toArray, List.getElem_cons_succ, List.getElem_cons_zero, Act.put, List.setIfInBounds_toArray, List.set_cons_zero, List.set_cons_succ]
  refine wpAnyH_done (by kernel_rfl) (NoPanic.normal ?_) _
  clear hS e1
  go_wp2_with fail
  go_ret2
  exact ⟨by first | rfl | simp, bel_on b0 D4.drew⟩
end Go.Proofs.YtinpiodfpnbllaaGreatDoor
