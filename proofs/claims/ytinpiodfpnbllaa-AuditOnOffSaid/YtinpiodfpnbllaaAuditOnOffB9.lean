/-
  Lemmas and contracts, joined: part 9.
-/
import Derived.Deep.QuietTactic
import Derived.BigQuiet
import Derived.Lib.AppendZerosOnto
import Derived.Test.YtinpiodfpnbllaaAuditOnOffB8
set_option linter.unusedSimpArgs false
set_option linter.unusedVariables false
set_option linter.unnecessarySimpa false
/- Whether a proof of absence is accepted: the reference's. -/
namespace Go.Proofs.Ytinpiodfpnbllaa
open Go.RowKit
set_option linter.unusedVariables false
set_option linter.unusedSimpArgs false
attribute [local go_sem] run_storeCells_key run_storeCells_new equalIn_keys

set_option maxHeartbeats 16000000 in
set_option maxRecDepth 100000 in
theorem refVoff_out (root : List UInt8) (u r0 q0 r1 q1 a b a2 b2 : Int) (P R : List (List UInt8)) (A A2 : Option Addr) (c c2 : Nat) (w : World) {m1 m2 : Nat} (hr : root.length = 16) (hm1 : P.length = m1) (hm2 : R.length = m2) (h : KR w A c P) (h2 : KR w A2 c2 R) (hu : u < 0 ∨ 64 ≤ u) :
    Calls Try.prog 40 #[.agg (cellsB root).toArray, .int .i64 u, .agg #[.int .i64 r0, .int .i64 q0, .int .i64 r1, .int .i64 q1, .int .i64 a, .int .i64 b, .slice A m1 c, .int .i64 a2, .int .i64 b2, .slice A2 m2 c2]] w fun e w' => e = .returned (.tuple #[.bool (voS root u (r0, q0) (r1, q1) a b P a2 b2 R).1, .int .i64 (voS root u (r0, q0) (r1, q1) a b P a2 b2 R).2]) ∧ Below w.heap.size w w' := by
  have b0 := alloc2_bel w (.cells (cellsB root).toArray 23) (.cells #[.int .i64 r0, .int .i64 q0, .int .i64 r1, .int .i64 q1, .int .i64 a, .int .i64 b, .slice A m1 c, .int .i64 a2, .int .i64 b2, .slice A2 m2 c2] 81)
  have HS : Hid (voS root u (r0, q0) (r1, q1) a b P a2 b2 R = (false, 2)) := by unfold Hid voS; rw [if_pos hu]
  clear hr hm1 hm2 h h2
  rcases hu with hu | hu
  · go_enter Try.func40, Try.ntmps40
    go_wp2_with fail
    go_ret2
    rw [HS.out]
    exact ⟨rfl, b0⟩
  · have s0 : decide (u < 0) = false := by simp; omega
    go_enter Try.func40, Try.ntmps40
    go_wp2_with fail
    go_ret2
    rw [HS.out]
    exact ⟨rfl, b0⟩

set_option maxHeartbeats 16000000 in
set_option maxRecDepth 100000 in
theorem refVoff_unfit (root : List UInt8) (u r0 q0 r1 q1 a b a2 b2 : Int) (P R : List (List UInt8)) (A A2 : Option Addr) (c c2 : Nat) (w : World) {m1 m2 : Nat} (hr : root.length = 16) (hm1 : P.length = m1) (hm2 : R.length = m2) (h : KR w A c P) (h2 : KR w A2 c2 R) (h3 : 0 ≤ u) (h4 : u < 64) (hv : okV (r0, q0) (r1, q1) a b m1 a2 b2 m2 = false) :
    Calls Try.prog 40 #[.agg (cellsB root).toArray, .int .i64 u, .agg #[.int .i64 r0, .int .i64 q0, .int .i64 r1, .int .i64 q1, .int .i64 a, .int .i64 b, .slice A m1 c, .int .i64 a2, .int .i64 b2, .slice A2 m2 c2]] w fun e w' => e = .returned (.tuple #[.bool (voS root u (r0, q0) (r1, q1) a b P a2 b2 R).1, .int .i64 (voS root u (r0, q0) (r1, q1) a b P a2 b2 R).2]) ∧ Below w.heap.size w w' := by
  have b0 := alloc2_bel w (.cells (cellsB root).toArray 23) (.cells #[.int .i64 r0, .int .i64 q0, .int .i64 r1, .int .i64 q1, .int .i64 a, .int .i64 b, .slice A m1 c, .int .i64 a2, .int .i64 b2, .slice A2 m2 c2] 81)
  have hml1 := h.len
  have hml2 := h2.len
  have BA : Hid (∀ W, Below ((w.alloc (.cells (cellsB root).toArray 23)).alloc (.cells #[.int .i64 r0, .int .i64 q0, .int .i64 r1, .int .i64 q1, .int .i64 a, .int .i64 b, .slice A m1 c, .int .i64 a2, .int .i64 b2, .slice A2 m2 c2] 81)).heap.size ((w.alloc (.cells (cellsB root).toArray 23)).alloc (.cells #[.int .i64 r0, .int .i64 q0, .int .i64 r1, .int .i64 q1, .int .i64 a, .int .i64 b, .slice A m1 c, .int .i64 a2, .int .i64 b2, .slice A2 m2 c2] 81)) W → Blk W (w.heap.size + 1) 81 #[.int .i64 r0, .int .i64 q0, .int .i64 r1, .int .i64 q1, .int .i64 a, .int .i64 b, .slice A m1 c, .int .i64 a2, .int .i64 b2, .slice A2 m2 c2]) := fun W hW => (blk_b1 w (.cells (cellsB root).toArray 23) #[.int .i64 r0, .int .i64 q0, .int .i64 r1, .int .i64 q1, .int .i64 a, .int .i64 b, .slice A m1 c, .int .i64 a2, .int .i64 b2, .slice A2 m2 c2] 81).below' hW
  have BR : Hid (∀ W, Below ((w.alloc (.cells (cellsB root).toArray 23)).alloc (.cells #[.int .i64 r0, .int .i64 q0, .int .i64 r1, .int .i64 q1, .int .i64 a, .int .i64 b, .slice A m1 c, .int .i64 a2, .int .i64 b2, .slice A2 m2 c2] 81)).heap.size ((w.alloc (.cells (cellsB root).toArray 23)).alloc (.cells #[.int .i64 r0, .int .i64 q0, .int .i64 r1, .int .i64 q1, .int .i64 a, .int .i64 b, .slice A m1 c, .int .i64 a2, .int .i64 b2, .slice A2 m2 c2] 81)) W → Blk W w.heap.size 23 (cellsB root).toArray) := fun W hW => (blk_b0 w (cellsB root).toArray 23 (.cells #[.int .i64 r0, .int .i64 q0, .int .i64 r1, .int .i64 q1, .int .i64 a, .int .i64 b, .slice A m1 c, .int .i64 a2, .int .i64 b2, .slice A2 m2 c2] 81)).below' hW
  have D0 : Below ((w.alloc (.cells (cellsB root).toArray 23)).alloc (.cells #[.int .i64 r0, .int .i64 q0, .int .i64 r1, .int .i64 q1, .int .i64 a, .int .i64 b, .slice A m1 c, .int .i64 a2, .int .i64 b2, .slice A2 m2 c2] 81)).heap.size ((w.alloc (.cells (cellsB root).toArray 23)).alloc (.cells #[.int .i64 r0, .int .i64 q0, .int .i64 r1, .int .i64 q1, .int .i64 a, .int .i64 b, .slice A m1 c, .int .i64 a2, .int .i64 b2, .slice A2 m2 c2] 81)) ((w.alloc (.cells (cellsB root).toArray 23)).alloc (.cells #[.int .i64 r0, .int .i64 q0, .int .i64 r1, .int .i64 q1, .int .i64 a, .int .i64 b, .slice A m1 c, .int .i64 a2, .int .i64 b2, .slice A2 m2 c2] 81)) := Below.refl _ _
  have HE0 : Hid (∀ W, Calls Try.prog 92 #[.agg #[.int .i64 r0, .int .i64 q0]] W fun e w' => e = .returned (.bool (isE (r0, q0))) ∧ Below W.heap.size W w') := fun W => refIsEntry_any r0 q0 W
  have HE1 : Hid (∀ W, Calls Try.prog 92 #[.agg #[.int .i64 r1, .int .i64 q1]] W fun e w' => e = .returned (.bool (isE (r1, q1))) ∧ Below W.heap.size W w') := fun W => refIsEntry_any r1 q1 W
  have HF0 : Hid (∀ W, Calls Try.prog 77 #[.agg #[.int .i64 a, .int .i64 b, .slice A m1 c]] W fun e w' => e = .returned (.bool (fitsB a b m1)) ∧ Below W.heap.size W w') := fun W => refFits_any a b A m1 c W (by omega)
  have HF1 : Hid (∀ W, Calls Try.prog 77 #[.agg #[.int .i64 a2, .int .i64 b2, .slice A2 m2 c2]] W fun e w' => e = .returned (.bool (fitsB a2 b2 m2)) ∧ Below W.heap.size W w') := fun W => refFits_any a2 b2 A2 m2 c2 W (by omega)
  have HS : Hid (voS root u (r0, q0) (r1, q1) a b P a2 b2 R = (false, 8)) := by unfold Hid voS; rw [if_neg (by omega), hm1, hm2, if_pos hv]
  have s0 : decide (u < 0) = false := by simp; omega
  have s1 : decide (64 ≤ u) = false := by simp; omega
  unfold okV at hv
  clear hr hm1 hm2 h h2 h3 h4 hml1 hml2
  cases x0 : isE (r0, q0) with
  | false =>
    rw [x0] at HE0
    clear hv x0
    have k0 : ((w.alloc (.cells (cellsB root).toArray 23)).alloc (.cells #[.int .i64 r0, .int .i64 q0, .int .i64 r1, .int .i64 q1, .int .i64 a, .int .i64 b, .slice A m1 c, .int .i64 a2, .int .i64 b2, .slice A2 m2 c2] 81)).cell? ⟨w.heap.size + 1, 0, none⟩ = some (.int .i64 r0) := (BA.out _ D0).cell 0; have k1 : ((w.alloc (.cells (cellsB root).toArray 23)).alloc (.cells #[.int .i64 r0, .int .i64 q0, .int .i64 r1, .int .i64 q1, .int .i64 a, .int .i64 b, .slice A m1 c, .int .i64 a2, .int .i64 b2, .slice A2 m2 c2] 81)).cell? ⟨w.heap.size + 1, 1, none⟩ = some (.int .i64 q0) := (BA.out _ D0).cell 1; have k2 : ((w.alloc (.cells (cellsB root).toArray 23)).alloc (.cells #[.int .i64 r0, .int .i64 q0, .int .i64 r1, .int .i64 q1, .int .i64 a, .int .i64 b, .slice A m1 c, .int .i64 a2, .int .i64 b2, .slice A2 m2 c2] 81)).cell? ⟨w.heap.size + 1, 2, none⟩ = some (.int .i64 r1) := (BA.out _ D0).cell 2; have k3 : ((w.alloc (.cells (cellsB root).toArray 23)).alloc (.cells #[.int .i64 r0, .int .i64 q0, .int .i64 r1, .int .i64 q1, .int .i64 a, .int .i64 b, .slice A m1 c, .int .i64 a2, .int .i64 b2, .slice A2 m2 c2] 81)).cell? ⟨w.heap.size + 1, 3, none⟩ = some (.int .i64 q1) := (BA.out _ D0).cell 3; have k4 : ((w.alloc (.cells (cellsB root).toArray 23)).alloc (.cells #[.int .i64 r0, .int .i64 q0, .int .i64 r1, .int .i64 q1, .int .i64 a, .int .i64 b, .slice A m1 c, .int .i64 a2, .int .i64 b2, .slice A2 m2 c2] 81)).cell? ⟨w.heap.size + 1, 4, none⟩ = some (.int .i64 a) := (BA.out _ D0).cell 4; have k5 : ((w.alloc (.cells (cellsB root).toArray 23)).alloc (.cells #[.int .i64 r0, .int .i64 q0, .int .i64 r1, .int .i64 q1, .int .i64 a, .int .i64 b, .slice A m1 c, .int .i64 a2, .int .i64 b2, .slice A2 m2 c2] 81)).cell? ⟨w.heap.size + 1, 5, none⟩ = some (.int .i64 b) := (BA.out _ D0).cell 5; have k6 : ((w.alloc (.cells (cellsB root).toArray 23)).alloc (.cells #[.int .i64 r0, .int .i64 q0, .int .i64 r1, .int .i64 q1, .int .i64 a, .int .i64 b, .slice A m1 c, .int .i64 a2, .int .i64 b2, .slice A2 m2 c2] 81)).cell? ⟨w.heap.size + 1, 6, none⟩ = some (.slice A m1 c) := (BA.out _ D0).cell 6; have k7 : ((w.alloc (.cells (cellsB root).toArray 23)).alloc (.cells #[.int .i64 r0, .int .i64 q0, .int .i64 r1, .int .i64 q1, .int .i64 a, .int .i64 b, .slice A m1 c, .int .i64 a2, .int .i64 b2, .slice A2 m2 c2] 81)).cell? ⟨w.heap.size + 1, 7, none⟩ = some (.int .i64 a2) := (BA.out _ D0).cell 7; have k8 : ((w.alloc (.cells (cellsB root).toArray 23)).alloc (.cells #[.int .i64 r0, .int .i64 q0, .int .i64 r1, .int .i64 q1, .int .i64 a, .int .i64 b, .slice A m1 c, .int .i64 a2, .int .i64 b2, .slice A2 m2 c2] 81)).cell? ⟨w.heap.size + 1, 8, none⟩ = some (.int .i64 b2) := (BA.out _ D0).cell 8; have k9 : ((w.alloc (.cells (cellsB root).toArray 23)).alloc (.cells #[.int .i64 r0, .int .i64 q0, .int .i64 r1, .int .i64 q1, .int .i64 a, .int .i64 b, .slice A m1 c, .int .i64 a2, .int .i64 b2, .slice A2 m2 c2] 81)).cell? ⟨w.heap.size + 1, 9, none⟩ = some (.slice A2 m2 c2) := (BA.out _ D0).cell 9
    go_enter Try.func40, Try.ntmps40
    go_wp2_with (first
      | (go_at_call 92; (with_reducible refine (HE0.out _).mono ?_); rintro e w1 ⟨rfl, hb1⟩; clear k0 k1 k2 k3 k4 k5 k6 k7 k8 k9; have D1 := bel_on D0 hb1; clear hb1; have Q1 := BA.out _ D1; have k0 : w1.cell? ⟨w.heap.size + 1, 0, none⟩ = some (.int .i64 r0) := Q1.cell 0; have k1 : w1.cell? ⟨w.heap.size + 1, 1, none⟩ = some (.int .i64 q0) := Q1.cell 1; have k2 : w1.cell? ⟨w.heap.size + 1, 2, none⟩ = some (.int .i64 r1) := Q1.cell 2; have k3 : w1.cell? ⟨w.heap.size + 1, 3, none⟩ = some (.int .i64 q1) := Q1.cell 3; have k4 : w1.cell? ⟨w.heap.size + 1, 4, none⟩ = some (.int .i64 a) := Q1.cell 4; have k5 : w1.cell? ⟨w.heap.size + 1, 5, none⟩ = some (.int .i64 b) := Q1.cell 5; have k6 : w1.cell? ⟨w.heap.size + 1, 6, none⟩ = some (.slice A m1 c) := Q1.cell 6; have k7 : w1.cell? ⟨w.heap.size + 1, 7, none⟩ = some (.int .i64 a2) := Q1.cell 7; have k8 : w1.cell? ⟨w.heap.size + 1, 8, none⟩ = some (.int .i64 b2) := Q1.cell 8; have k9 : w1.cell? ⟨w.heap.size + 1, 9, none⟩ = some (.slice A2 m2 c2) := Q1.cell 9; clear Q1))
    go_ret2
    rw [HS.out]
    exact ⟨rfl, bel_on b0 D1⟩
  | true =>
    cases x1 : isE (r1, q1) with
    | false =>
      rw [x0] at HE0; rw [x1] at HE1
      clear hv x0 x1
      have k0 : ((w.alloc (.cells (cellsB root).toArray 23)).alloc (.cells #[.int .i64 r0, .int .i64 q0, .int .i64 r1, .int .i64 q1, .int .i64 a, .int .i64 b, .slice A m1 c, .int .i64 a2, .int .i64 b2, .slice A2 m2 c2] 81)).cell? ⟨w.heap.size + 1, 0, none⟩ = some (.int .i64 r0) := (BA.out _ D0).cell 0; have k1 : ((w.alloc (.cells (cellsB root).toArray 23)).alloc (.cells #[.int .i64 r0, .int .i64 q0, .int .i64 r1, .int .i64 q1, .int .i64 a, .int .i64 b, .slice A m1 c, .int .i64 a2, .int .i64 b2, .slice A2 m2 c2] 81)).cell? ⟨w.heap.size + 1, 1, none⟩ = some (.int .i64 q0) := (BA.out _ D0).cell 1; have k2 : ((w.alloc (.cells (cellsB root).toArray 23)).alloc (.cells #[.int .i64 r0, .int .i64 q0, .int .i64 r1, .int .i64 q1, .int .i64 a, .int .i64 b, .slice A m1 c, .int .i64 a2, .int .i64 b2, .slice A2 m2 c2] 81)).cell? ⟨w.heap.size + 1, 2, none⟩ = some (.int .i64 r1) := (BA.out _ D0).cell 2; have k3 : ((w.alloc (.cells (cellsB root).toArray 23)).alloc (.cells #[.int .i64 r0, .int .i64 q0, .int .i64 r1, .int .i64 q1, .int .i64 a, .int .i64 b, .slice A m1 c, .int .i64 a2, .int .i64 b2, .slice A2 m2 c2] 81)).cell? ⟨w.heap.size + 1, 3, none⟩ = some (.int .i64 q1) := (BA.out _ D0).cell 3; have k4 : ((w.alloc (.cells (cellsB root).toArray 23)).alloc (.cells #[.int .i64 r0, .int .i64 q0, .int .i64 r1, .int .i64 q1, .int .i64 a, .int .i64 b, .slice A m1 c, .int .i64 a2, .int .i64 b2, .slice A2 m2 c2] 81)).cell? ⟨w.heap.size + 1, 4, none⟩ = some (.int .i64 a) := (BA.out _ D0).cell 4; have k5 : ((w.alloc (.cells (cellsB root).toArray 23)).alloc (.cells #[.int .i64 r0, .int .i64 q0, .int .i64 r1, .int .i64 q1, .int .i64 a, .int .i64 b, .slice A m1 c, .int .i64 a2, .int .i64 b2, .slice A2 m2 c2] 81)).cell? ⟨w.heap.size + 1, 5, none⟩ = some (.int .i64 b) := (BA.out _ D0).cell 5; have k6 : ((w.alloc (.cells (cellsB root).toArray 23)).alloc (.cells #[.int .i64 r0, .int .i64 q0, .int .i64 r1, .int .i64 q1, .int .i64 a, .int .i64 b, .slice A m1 c, .int .i64 a2, .int .i64 b2, .slice A2 m2 c2] 81)).cell? ⟨w.heap.size + 1, 6, none⟩ = some (.slice A m1 c) := (BA.out _ D0).cell 6; have k7 : ((w.alloc (.cells (cellsB root).toArray 23)).alloc (.cells #[.int .i64 r0, .int .i64 q0, .int .i64 r1, .int .i64 q1, .int .i64 a, .int .i64 b, .slice A m1 c, .int .i64 a2, .int .i64 b2, .slice A2 m2 c2] 81)).cell? ⟨w.heap.size + 1, 7, none⟩ = some (.int .i64 a2) := (BA.out _ D0).cell 7; have k8 : ((w.alloc (.cells (cellsB root).toArray 23)).alloc (.cells #[.int .i64 r0, .int .i64 q0, .int .i64 r1, .int .i64 q1, .int .i64 a, .int .i64 b, .slice A m1 c, .int .i64 a2, .int .i64 b2, .slice A2 m2 c2] 81)).cell? ⟨w.heap.size + 1, 8, none⟩ = some (.int .i64 b2) := (BA.out _ D0).cell 8; have k9 : ((w.alloc (.cells (cellsB root).toArray 23)).alloc (.cells #[.int .i64 r0, .int .i64 q0, .int .i64 r1, .int .i64 q1, .int .i64 a, .int .i64 b, .slice A m1 c, .int .i64 a2, .int .i64 b2, .slice A2 m2 c2] 81)).cell? ⟨w.heap.size + 1, 9, none⟩ = some (.slice A2 m2 c2) := (BA.out _ D0).cell 9
      go_enter Try.func40, Try.ntmps40
      go_wp2_with (first
        | (go_at_call 92; (with_reducible refine (HE0.out _).mono ?_); rintro e w1 ⟨rfl, hb1⟩; clear k0 k1 k2 k3 k4 k5 k6 k7 k8 k9; have D1 := bel_on D0 hb1; clear hb1; have Q1 := BA.out _ D1; have k0 : w1.cell? ⟨w.heap.size + 1, 0, none⟩ = some (.int .i64 r0) := Q1.cell 0; have k1 : w1.cell? ⟨w.heap.size + 1, 1, none⟩ = some (.int .i64 q0) := Q1.cell 1; have k2 : w1.cell? ⟨w.heap.size + 1, 2, none⟩ = some (.int .i64 r1) := Q1.cell 2; have k3 : w1.cell? ⟨w.heap.size + 1, 3, none⟩ = some (.int .i64 q1) := Q1.cell 3; have k4 : w1.cell? ⟨w.heap.size + 1, 4, none⟩ = some (.int .i64 a) := Q1.cell 4; have k5 : w1.cell? ⟨w.heap.size + 1, 5, none⟩ = some (.int .i64 b) := Q1.cell 5; have k6 : w1.cell? ⟨w.heap.size + 1, 6, none⟩ = some (.slice A m1 c) := Q1.cell 6; have k7 : w1.cell? ⟨w.heap.size + 1, 7, none⟩ = some (.int .i64 a2) := Q1.cell 7; have k8 : w1.cell? ⟨w.heap.size + 1, 8, none⟩ = some (.int .i64 b2) := Q1.cell 8; have k9 : w1.cell? ⟨w.heap.size + 1, 9, none⟩ = some (.slice A2 m2 c2) := Q1.cell 9; clear Q1)
        | (go_at_call 92; (with_reducible refine (HE1.out _).mono ?_); rintro e w2 ⟨rfl, hb2⟩; clear k0 k1 k2 k3 k4 k5 k6 k7 k8 k9; have D2 := bel_on D1 hb2; clear hb2; have Q2 := BA.out _ D2; have k0 : w2.cell? ⟨w.heap.size + 1, 0, none⟩ = some (.int .i64 r0) := Q2.cell 0; have k1 : w2.cell? ⟨w.heap.size + 1, 1, none⟩ = some (.int .i64 q0) := Q2.cell 1; have k2 : w2.cell? ⟨w.heap.size + 1, 2, none⟩ = some (.int .i64 r1) := Q2.cell 2; have k3 : w2.cell? ⟨w.heap.size + 1, 3, none⟩ = some (.int .i64 q1) := Q2.cell 3; have k4 : w2.cell? ⟨w.heap.size + 1, 4, none⟩ = some (.int .i64 a) := Q2.cell 4; have k5 : w2.cell? ⟨w.heap.size + 1, 5, none⟩ = some (.int .i64 b) := Q2.cell 5; have k6 : w2.cell? ⟨w.heap.size + 1, 6, none⟩ = some (.slice A m1 c) := Q2.cell 6; have k7 : w2.cell? ⟨w.heap.size + 1, 7, none⟩ = some (.int .i64 a2) := Q2.cell 7; have k8 : w2.cell? ⟨w.heap.size + 1, 8, none⟩ = some (.int .i64 b2) := Q2.cell 8; have k9 : w2.cell? ⟨w.heap.size + 1, 9, none⟩ = some (.slice A2 m2 c2) := Q2.cell 9; clear Q2))
      go_ret2
      rw [HS.out]
      exact ⟨rfl, bel_on b0 D2⟩
    | true =>
      cases x2 : fitsB a b m1 with
      | false =>
        rw [x0] at HE0; rw [x1] at HE1; rw [x2] at HF0
        clear hv x0 x1 x2
        have k0 : ((w.alloc (.cells (cellsB root).toArray 23)).alloc (.cells #[.int .i64 r0, .int .i64 q0, .int .i64 r1, .int .i64 q1, .int .i64 a, .int .i64 b, .slice A m1 c, .int .i64 a2, .int .i64 b2, .slice A2 m2 c2] 81)).cell? ⟨w.heap.size + 1, 0, none⟩ = some (.int .i64 r0) := (BA.out _ D0).cell 0; have k1 : ((w.alloc (.cells (cellsB root).toArray 23)).alloc (.cells #[.int .i64 r0, .int .i64 q0, .int .i64 r1, .int .i64 q1, .int .i64 a, .int .i64 b, .slice A m1 c, .int .i64 a2, .int .i64 b2, .slice A2 m2 c2] 81)).cell? ⟨w.heap.size + 1, 1, none⟩ = some (.int .i64 q0) := (BA.out _ D0).cell 1; have k2 : ((w.alloc (.cells (cellsB root).toArray 23)).alloc (.cells #[.int .i64 r0, .int .i64 q0, .int .i64 r1, .int .i64 q1, .int .i64 a, .int .i64 b, .slice A m1 c, .int .i64 a2, .int .i64 b2, .slice A2 m2 c2] 81)).cell? ⟨w.heap.size + 1, 2, none⟩ = some (.int .i64 r1) := (BA.out _ D0).cell 2; have k3 : ((w.alloc (.cells (cellsB root).toArray 23)).alloc (.cells #[.int .i64 r0, .int .i64 q0, .int .i64 r1, .int .i64 q1, .int .i64 a, .int .i64 b, .slice A m1 c, .int .i64 a2, .int .i64 b2, .slice A2 m2 c2] 81)).cell? ⟨w.heap.size + 1, 3, none⟩ = some (.int .i64 q1) := (BA.out _ D0).cell 3; have k4 : ((w.alloc (.cells (cellsB root).toArray 23)).alloc (.cells #[.int .i64 r0, .int .i64 q0, .int .i64 r1, .int .i64 q1, .int .i64 a, .int .i64 b, .slice A m1 c, .int .i64 a2, .int .i64 b2, .slice A2 m2 c2] 81)).cell? ⟨w.heap.size + 1, 4, none⟩ = some (.int .i64 a) := (BA.out _ D0).cell 4; have k5 : ((w.alloc (.cells (cellsB root).toArray 23)).alloc (.cells #[.int .i64 r0, .int .i64 q0, .int .i64 r1, .int .i64 q1, .int .i64 a, .int .i64 b, .slice A m1 c, .int .i64 a2, .int .i64 b2, .slice A2 m2 c2] 81)).cell? ⟨w.heap.size + 1, 5, none⟩ = some (.int .i64 b) := (BA.out _ D0).cell 5; have k6 : ((w.alloc (.cells (cellsB root).toArray 23)).alloc (.cells #[.int .i64 r0, .int .i64 q0, .int .i64 r1, .int .i64 q1, .int .i64 a, .int .i64 b, .slice A m1 c, .int .i64 a2, .int .i64 b2, .slice A2 m2 c2] 81)).cell? ⟨w.heap.size + 1, 6, none⟩ = some (.slice A m1 c) := (BA.out _ D0).cell 6; have k7 : ((w.alloc (.cells (cellsB root).toArray 23)).alloc (.cells #[.int .i64 r0, .int .i64 q0, .int .i64 r1, .int .i64 q1, .int .i64 a, .int .i64 b, .slice A m1 c, .int .i64 a2, .int .i64 b2, .slice A2 m2 c2] 81)).cell? ⟨w.heap.size + 1, 7, none⟩ = some (.int .i64 a2) := (BA.out _ D0).cell 7; have k8 : ((w.alloc (.cells (cellsB root).toArray 23)).alloc (.cells #[.int .i64 r0, .int .i64 q0, .int .i64 r1, .int .i64 q1, .int .i64 a, .int .i64 b, .slice A m1 c, .int .i64 a2, .int .i64 b2, .slice A2 m2 c2] 81)).cell? ⟨w.heap.size + 1, 8, none⟩ = some (.int .i64 b2) := (BA.out _ D0).cell 8; have k9 : ((w.alloc (.cells (cellsB root).toArray 23)).alloc (.cells #[.int .i64 r0, .int .i64 q0, .int .i64 r1, .int .i64 q1, .int .i64 a, .int .i64 b, .slice A m1 c, .int .i64 a2, .int .i64 b2, .slice A2 m2 c2] 81)).cell? ⟨w.heap.size + 1, 9, none⟩ = some (.slice A2 m2 c2) := (BA.out _ D0).cell 9
        go_enter Try.func40, Try.ntmps40
        go_wp2_with (first
          | (go_at_call 92; (with_reducible refine (HE0.out _).mono ?_); rintro e w1 ⟨rfl, hb1⟩; clear k0 k1 k2 k3 k4 k5 k6 k7 k8 k9; have D1 := bel_on D0 hb1; clear hb1; have Q1 := BA.out _ D1; have k0 : w1.cell? ⟨w.heap.size + 1, 0, none⟩ = some (.int .i64 r0) := Q1.cell 0; have k1 : w1.cell? ⟨w.heap.size + 1, 1, none⟩ = some (.int .i64 q0) := Q1.cell 1; have k2 : w1.cell? ⟨w.heap.size + 1, 2, none⟩ = some (.int .i64 r1) := Q1.cell 2; have k3 : w1.cell? ⟨w.heap.size + 1, 3, none⟩ = some (.int .i64 q1) := Q1.cell 3; have k4 : w1.cell? ⟨w.heap.size + 1, 4, none⟩ = some (.int .i64 a) := Q1.cell 4; have k5 : w1.cell? ⟨w.heap.size + 1, 5, none⟩ = some (.int .i64 b) := Q1.cell 5; have k6 : w1.cell? ⟨w.heap.size + 1, 6, none⟩ = some (.slice A m1 c) := Q1.cell 6; have k7 : w1.cell? ⟨w.heap.size + 1, 7, none⟩ = some (.int .i64 a2) := Q1.cell 7; have k8 : w1.cell? ⟨w.heap.size + 1, 8, none⟩ = some (.int .i64 b2) := Q1.cell 8; have k9 : w1.cell? ⟨w.heap.size + 1, 9, none⟩ = some (.slice A2 m2 c2) := Q1.cell 9; clear Q1)
          | (go_at_call 92; (with_reducible refine (HE1.out _).mono ?_); rintro e w2 ⟨rfl, hb2⟩; clear k0 k1 k2 k3 k4 k5 k6 k7 k8 k9; have D2 := bel_on D1 hb2; clear hb2; have Q2 := BA.out _ D2; have k0 : w2.cell? ⟨w.heap.size + 1, 0, none⟩ = some (.int .i64 r0) := Q2.cell 0; have k1 : w2.cell? ⟨w.heap.size + 1, 1, none⟩ = some (.int .i64 q0) := Q2.cell 1; have k2 : w2.cell? ⟨w.heap.size + 1, 2, none⟩ = some (.int .i64 r1) := Q2.cell 2; have k3 : w2.cell? ⟨w.heap.size + 1, 3, none⟩ = some (.int .i64 q1) := Q2.cell 3; have k4 : w2.cell? ⟨w.heap.size + 1, 4, none⟩ = some (.int .i64 a) := Q2.cell 4; have k5 : w2.cell? ⟨w.heap.size + 1, 5, none⟩ = some (.int .i64 b) := Q2.cell 5; have k6 : w2.cell? ⟨w.heap.size + 1, 6, none⟩ = some (.slice A m1 c) := Q2.cell 6; have k7 : w2.cell? ⟨w.heap.size + 1, 7, none⟩ = some (.int .i64 a2) := Q2.cell 7; have k8 : w2.cell? ⟨w.heap.size + 1, 8, none⟩ = some (.int .i64 b2) := Q2.cell 8; have k9 : w2.cell? ⟨w.heap.size + 1, 9, none⟩ = some (.slice A2 m2 c2) := Q2.cell 9; clear Q2)
          | (go_at_call 77; (with_reducible refine (HF0.out _).mono ?_); rintro e w3 ⟨rfl, hb3⟩; clear k0 k1 k2 k3 k4 k5 k6 k7 k8 k9; have D3 := bel_on D2 hb3; clear hb3; have Q3 := BA.out _ D3; have k0 : w3.cell? ⟨w.heap.size + 1, 0, none⟩ = some (.int .i64 r0) := Q3.cell 0; have k1 : w3.cell? ⟨w.heap.size + 1, 1, none⟩ = some (.int .i64 q0) := Q3.cell 1; have k2 : w3.cell? ⟨w.heap.size + 1, 2, none⟩ = some (.int .i64 r1) := Q3.cell 2; have k3 : w3.cell? ⟨w.heap.size + 1, 3, none⟩ = some (.int .i64 q1) := Q3.cell 3; have k4 : w3.cell? ⟨w.heap.size + 1, 4, none⟩ = some (.int .i64 a) := Q3.cell 4; have k5 : w3.cell? ⟨w.heap.size + 1, 5, none⟩ = some (.int .i64 b) := Q3.cell 5; have k6 : w3.cell? ⟨w.heap.size + 1, 6, none⟩ = some (.slice A m1 c) := Q3.cell 6; have k7 : w3.cell? ⟨w.heap.size + 1, 7, none⟩ = some (.int .i64 a2) := Q3.cell 7; have k8 : w3.cell? ⟨w.heap.size + 1, 8, none⟩ = some (.int .i64 b2) := Q3.cell 8; have k9 : w3.cell? ⟨w.heap.size + 1, 9, none⟩ = some (.slice A2 m2 c2) := Q3.cell 9; clear Q3))
        go_ret2
        rw [HS.out]
        exact ⟨rfl, bel_on b0 D3⟩
      | true =>
        cases x3 : fitsB a2 b2 m2 with
        | false =>
          rw [x0] at HE0; rw [x1] at HE1; rw [x2] at HF0; rw [x3] at HF1
          clear hv x0 x1 x2 x3
          have k0 : ((w.alloc (.cells (cellsB root).toArray 23)).alloc (.cells #[.int .i64 r0, .int .i64 q0, .int .i64 r1, .int .i64 q1, .int .i64 a, .int .i64 b, .slice A m1 c, .int .i64 a2, .int .i64 b2, .slice A2 m2 c2] 81)).cell? ⟨w.heap.size + 1, 0, none⟩ = some (.int .i64 r0) := (BA.out _ D0).cell 0; have k1 : ((w.alloc (.cells (cellsB root).toArray 23)).alloc (.cells #[.int .i64 r0, .int .i64 q0, .int .i64 r1, .int .i64 q1, .int .i64 a, .int .i64 b, .slice A m1 c, .int .i64 a2, .int .i64 b2, .slice A2 m2 c2] 81)).cell? ⟨w.heap.size + 1, 1, none⟩ = some (.int .i64 q0) := (BA.out _ D0).cell 1; have k2 : ((w.alloc (.cells (cellsB root).toArray 23)).alloc (.cells #[.int .i64 r0, .int .i64 q0, .int .i64 r1, .int .i64 q1, .int .i64 a, .int .i64 b, .slice A m1 c, .int .i64 a2, .int .i64 b2, .slice A2 m2 c2] 81)).cell? ⟨w.heap.size + 1, 2, none⟩ = some (.int .i64 r1) := (BA.out _ D0).cell 2; have k3 : ((w.alloc (.cells (cellsB root).toArray 23)).alloc (.cells #[.int .i64 r0, .int .i64 q0, .int .i64 r1, .int .i64 q1, .int .i64 a, .int .i64 b, .slice A m1 c, .int .i64 a2, .int .i64 b2, .slice A2 m2 c2] 81)).cell? ⟨w.heap.size + 1, 3, none⟩ = some (.int .i64 q1) := (BA.out _ D0).cell 3; have k4 : ((w.alloc (.cells (cellsB root).toArray 23)).alloc (.cells #[.int .i64 r0, .int .i64 q0, .int .i64 r1, .int .i64 q1, .int .i64 a, .int .i64 b, .slice A m1 c, .int .i64 a2, .int .i64 b2, .slice A2 m2 c2] 81)).cell? ⟨w.heap.size + 1, 4, none⟩ = some (.int .i64 a) := (BA.out _ D0).cell 4; have k5 : ((w.alloc (.cells (cellsB root).toArray 23)).alloc (.cells #[.int .i64 r0, .int .i64 q0, .int .i64 r1, .int .i64 q1, .int .i64 a, .int .i64 b, .slice A m1 c, .int .i64 a2, .int .i64 b2, .slice A2 m2 c2] 81)).cell? ⟨w.heap.size + 1, 5, none⟩ = some (.int .i64 b) := (BA.out _ D0).cell 5; have k6 : ((w.alloc (.cells (cellsB root).toArray 23)).alloc (.cells #[.int .i64 r0, .int .i64 q0, .int .i64 r1, .int .i64 q1, .int .i64 a, .int .i64 b, .slice A m1 c, .int .i64 a2, .int .i64 b2, .slice A2 m2 c2] 81)).cell? ⟨w.heap.size + 1, 6, none⟩ = some (.slice A m1 c) := (BA.out _ D0).cell 6; have k7 : ((w.alloc (.cells (cellsB root).toArray 23)).alloc (.cells #[.int .i64 r0, .int .i64 q0, .int .i64 r1, .int .i64 q1, .int .i64 a, .int .i64 b, .slice A m1 c, .int .i64 a2, .int .i64 b2, .slice A2 m2 c2] 81)).cell? ⟨w.heap.size + 1, 7, none⟩ = some (.int .i64 a2) := (BA.out _ D0).cell 7; have k8 : ((w.alloc (.cells (cellsB root).toArray 23)).alloc (.cells #[.int .i64 r0, .int .i64 q0, .int .i64 r1, .int .i64 q1, .int .i64 a, .int .i64 b, .slice A m1 c, .int .i64 a2, .int .i64 b2, .slice A2 m2 c2] 81)).cell? ⟨w.heap.size + 1, 8, none⟩ = some (.int .i64 b2) := (BA.out _ D0).cell 8; have k9 : ((w.alloc (.cells (cellsB root).toArray 23)).alloc (.cells #[.int .i64 r0, .int .i64 q0, .int .i64 r1, .int .i64 q1, .int .i64 a, .int .i64 b, .slice A m1 c, .int .i64 a2, .int .i64 b2, .slice A2 m2 c2] 81)).cell? ⟨w.heap.size + 1, 9, none⟩ = some (.slice A2 m2 c2) := (BA.out _ D0).cell 9
          go_enter Try.func40, Try.ntmps40
          go_wp2_with (first
            | (go_at_call 92; (with_reducible refine (HE0.out _).mono ?_); rintro e w1 ⟨rfl, hb1⟩; clear k0 k1 k2 k3 k4 k5 k6 k7 k8 k9; have D1 := bel_on D0 hb1; clear hb1; have Q1 := BA.out _ D1; have k0 : w1.cell? ⟨w.heap.size + 1, 0, none⟩ = some (.int .i64 r0) := Q1.cell 0; have k1 : w1.cell? ⟨w.heap.size + 1, 1, none⟩ = some (.int .i64 q0) := Q1.cell 1; have k2 : w1.cell? ⟨w.heap.size + 1, 2, none⟩ = some (.int .i64 r1) := Q1.cell 2; have k3 : w1.cell? ⟨w.heap.size + 1, 3, none⟩ = some (.int .i64 q1) := Q1.cell 3; have k4 : w1.cell? ⟨w.heap.size + 1, 4, none⟩ = some (.int .i64 a) := Q1.cell 4; have k5 : w1.cell? ⟨w.heap.size + 1, 5, none⟩ = some (.int .i64 b) := Q1.cell 5; have k6 : w1.cell? ⟨w.heap.size + 1, 6, none⟩ = some (.slice A m1 c) := Q1.cell 6; have k7 : w1.cell? ⟨w.heap.size + 1, 7, none⟩ = some (.int .i64 a2) := Q1.cell 7; have k8 : w1.cell? ⟨w.heap.size + 1, 8, none⟩ = some (.int .i64 b2) := Q1.cell 8; have k9 : w1.cell? ⟨w.heap.size + 1, 9, none⟩ = some (.slice A2 m2 c2) := Q1.cell 9; clear Q1)
            | (go_at_call 92; (with_reducible refine (HE1.out _).mono ?_); rintro e w2 ⟨rfl, hb2⟩; clear k0 k1 k2 k3 k4 k5 k6 k7 k8 k9; have D2 := bel_on D1 hb2; clear hb2; have Q2 := BA.out _ D2; have k0 : w2.cell? ⟨w.heap.size + 1, 0, none⟩ = some (.int .i64 r0) := Q2.cell 0; have k1 : w2.cell? ⟨w.heap.size + 1, 1, none⟩ = some (.int .i64 q0) := Q2.cell 1; have k2 : w2.cell? ⟨w.heap.size + 1, 2, none⟩ = some (.int .i64 r1) := Q2.cell 2; have k3 : w2.cell? ⟨w.heap.size + 1, 3, none⟩ = some (.int .i64 q1) := Q2.cell 3; have k4 : w2.cell? ⟨w.heap.size + 1, 4, none⟩ = some (.int .i64 a) := Q2.cell 4; have k5 : w2.cell? ⟨w.heap.size + 1, 5, none⟩ = some (.int .i64 b) := Q2.cell 5; have k6 : w2.cell? ⟨w.heap.size + 1, 6, none⟩ = some (.slice A m1 c) := Q2.cell 6; have k7 : w2.cell? ⟨w.heap.size + 1, 7, none⟩ = some (.int .i64 a2) := Q2.cell 7; have k8 : w2.cell? ⟨w.heap.size + 1, 8, none⟩ = some (.int .i64 b2) := Q2.cell 8; have k9 : w2.cell? ⟨w.heap.size + 1, 9, none⟩ = some (.slice A2 m2 c2) := Q2.cell 9; clear Q2)
            | (go_at_call 77; (with_reducible refine (HF0.out _).mono ?_); rintro e w3 ⟨rfl, hb3⟩; clear k0 k1 k2 k3 k4 k5 k6 k7 k8 k9; have D3 := bel_on D2 hb3; clear hb3; have Q3 := BA.out _ D3; have k0 : w3.cell? ⟨w.heap.size + 1, 0, none⟩ = some (.int .i64 r0) := Q3.cell 0; have k1 : w3.cell? ⟨w.heap.size + 1, 1, none⟩ = some (.int .i64 q0) := Q3.cell 1; have k2 : w3.cell? ⟨w.heap.size + 1, 2, none⟩ = some (.int .i64 r1) := Q3.cell 2; have k3 : w3.cell? ⟨w.heap.size + 1, 3, none⟩ = some (.int .i64 q1) := Q3.cell 3; have k4 : w3.cell? ⟨w.heap.size + 1, 4, none⟩ = some (.int .i64 a) := Q3.cell 4; have k5 : w3.cell? ⟨w.heap.size + 1, 5, none⟩ = some (.int .i64 b) := Q3.cell 5; have k6 : w3.cell? ⟨w.heap.size + 1, 6, none⟩ = some (.slice A m1 c) := Q3.cell 6; have k7 : w3.cell? ⟨w.heap.size + 1, 7, none⟩ = some (.int .i64 a2) := Q3.cell 7; have k8 : w3.cell? ⟨w.heap.size + 1, 8, none⟩ = some (.int .i64 b2) := Q3.cell 8; have k9 : w3.cell? ⟨w.heap.size + 1, 9, none⟩ = some (.slice A2 m2 c2) := Q3.cell 9; clear Q3)
            | (go_at_call 77; (with_reducible refine (HF1.out _).mono ?_); rintro e w4 ⟨rfl, hb4⟩; clear k0 k1 k2 k3 k4 k5 k6 k7 k8 k9; have D4 := bel_on D3 hb4; clear hb4; have Q4 := BA.out _ D4; have k0 : w4.cell? ⟨w.heap.size + 1, 0, none⟩ = some (.int .i64 r0) := Q4.cell 0; have k1 : w4.cell? ⟨w.heap.size + 1, 1, none⟩ = some (.int .i64 q0) := Q4.cell 1; have k2 : w4.cell? ⟨w.heap.size + 1, 2, none⟩ = some (.int .i64 r1) := Q4.cell 2; have k3 : w4.cell? ⟨w.heap.size + 1, 3, none⟩ = some (.int .i64 q1) := Q4.cell 3; have k4 : w4.cell? ⟨w.heap.size + 1, 4, none⟩ = some (.int .i64 a) := Q4.cell 4; have k5 : w4.cell? ⟨w.heap.size + 1, 5, none⟩ = some (.int .i64 b) := Q4.cell 5; have k6 : w4.cell? ⟨w.heap.size + 1, 6, none⟩ = some (.slice A m1 c) := Q4.cell 6; have k7 : w4.cell? ⟨w.heap.size + 1, 7, none⟩ = some (.int .i64 a2) := Q4.cell 7; have k8 : w4.cell? ⟨w.heap.size + 1, 8, none⟩ = some (.int .i64 b2) := Q4.cell 8; have k9 : w4.cell? ⟨w.heap.size + 1, 9, none⟩ = some (.slice A2 m2 c2) := Q4.cell 9; clear Q4))
          go_ret2
          rw [HS.out]
          exact ⟨rfl, bel_on b0 D4⟩
        | true =>
          rw [x0, x1, x2, x3] at hv
          cases hv

set_option maxHeartbeats 16000000 in
set_option maxRecDepth 100000 in
theorem refVoff_far (root : List UInt8) (u r0 q0 r1 q1 a b a2 b2 : Int) (P R : List (List UInt8)) (A A2 : Option Addr) (c c2 : Nat) (w : World) {m1 m2 : Nat} (hr : root.length = 16) (hm1 : P.length = m1) (hm2 : R.length = m2) (h : KR w A c P) (h2 : KR w A2 c2 R) (h3 : 0 ≤ u) (h4 : u < 64) (hv : okV (r0, q0) (r1, q1) a b m1 a2 b2 m2 = true) (hn : nearB (r0, q0) (r1, q1) u a b a2 b2 = false) :
    Calls Try.prog 40 #[.agg (cellsB root).toArray, .int .i64 u, .agg #[.int .i64 r0, .int .i64 q0, .int .i64 r1, .int .i64 q1, .int .i64 a, .int .i64 b, .slice A m1 c, .int .i64 a2, .int .i64 b2, .slice A2 m2 c2]] w fun e w' => e = .returned (.tuple #[.bool (voS root u (r0, q0) (r1, q1) a b P a2 b2 R).1, .int .i64 (voS root u (r0, q0) (r1, q1) a b P a2 b2 R).2]) ∧ Below w.heap.size w w' := by
  have b0 := alloc2_bel w (.cells (cellsB root).toArray 23) (.cells #[.int .i64 r0, .int .i64 q0, .int .i64 r1, .int .i64 q1, .int .i64 a, .int .i64 b, .slice A m1 c, .int .i64 a2, .int .i64 b2, .slice A2 m2 c2] 81)
  have hml1 := h.len
  have hml2 := h2.len
  have BA : Hid (∀ W, Below ((w.alloc (.cells (cellsB root).toArray 23)).alloc (.cells #[.int .i64 r0, .int .i64 q0, .int .i64 r1, .int .i64 q1, .int .i64 a, .int .i64 b, .slice A m1 c, .int .i64 a2, .int .i64 b2, .slice A2 m2 c2] 81)).heap.size ((w.alloc (.cells (cellsB root).toArray 23)).alloc (.cells #[.int .i64 r0, .int .i64 q0, .int .i64 r1, .int .i64 q1, .int .i64 a, .int .i64 b, .slice A m1 c, .int .i64 a2, .int .i64 b2, .slice A2 m2 c2] 81)) W → Blk W (w.heap.size + 1) 81 #[.int .i64 r0, .int .i64 q0, .int .i64 r1, .int .i64 q1, .int .i64 a, .int .i64 b, .slice A m1 c, .int .i64 a2, .int .i64 b2, .slice A2 m2 c2]) := fun W hW => (blk_b1 w (.cells (cellsB root).toArray 23) #[.int .i64 r0, .int .i64 q0, .int .i64 r1, .int .i64 q1, .int .i64 a, .int .i64 b, .slice A m1 c, .int .i64 a2, .int .i64 b2, .slice A2 m2 c2] 81).below' hW
  have BR : Hid (∀ W, Below ((w.alloc (.cells (cellsB root).toArray 23)).alloc (.cells #[.int .i64 r0, .int .i64 q0, .int .i64 r1, .int .i64 q1, .int .i64 a, .int .i64 b, .slice A m1 c, .int .i64 a2, .int .i64 b2, .slice A2 m2 c2] 81)).heap.size ((w.alloc (.cells (cellsB root).toArray 23)).alloc (.cells #[.int .i64 r0, .int .i64 q0, .int .i64 r1, .int .i64 q1, .int .i64 a, .int .i64 b, .slice A m1 c, .int .i64 a2, .int .i64 b2, .slice A2 m2 c2] 81)) W → Blk W w.heap.size 23 (cellsB root).toArray) := fun W hW => (blk_b0 w (cellsB root).toArray 23 (.cells #[.int .i64 r0, .int .i64 q0, .int .i64 r1, .int .i64 q1, .int .i64 a, .int .i64 b, .slice A m1 c, .int .i64 a2, .int .i64 b2, .slice A2 m2 c2] 81)).below' hW
  have D0 : Below ((w.alloc (.cells (cellsB root).toArray 23)).alloc (.cells #[.int .i64 r0, .int .i64 q0, .int .i64 r1, .int .i64 q1, .int .i64 a, .int .i64 b, .slice A m1 c, .int .i64 a2, .int .i64 b2, .slice A2 m2 c2] 81)).heap.size ((w.alloc (.cells (cellsB root).toArray 23)).alloc (.cells #[.int .i64 r0, .int .i64 q0, .int .i64 r1, .int .i64 q1, .int .i64 a, .int .i64 b, .slice A m1 c, .int .i64 a2, .int .i64 b2, .slice A2 m2 c2] 81)) ((w.alloc (.cells (cellsB root).toArray 23)).alloc (.cells #[.int .i64 r0, .int .i64 q0, .int .i64 r1, .int .i64 q1, .int .i64 a, .int .i64 b, .slice A m1 c, .int .i64 a2, .int .i64 b2, .slice A2 m2 c2] 81)) := Below.refl _ _
  have HE0 : Hid (∀ W, Calls Try.prog 92 #[.agg #[.int .i64 r0, .int .i64 q0]] W fun e w' => e = .returned (.bool (isE (r0, q0))) ∧ Below W.heap.size W w') := fun W => refIsEntry_any r0 q0 W
  have HE1 : Hid (∀ W, Calls Try.prog 92 #[.agg #[.int .i64 r1, .int .i64 q1]] W fun e w' => e = .returned (.bool (isE (r1, q1))) ∧ Below W.heap.size W w') := fun W => refIsEntry_any r1 q1 W
  have HF0 : Hid (∀ W, Calls Try.prog 77 #[.agg #[.int .i64 a, .int .i64 b, .slice A m1 c]] W fun e w' => e = .returned (.bool (fitsB a b m1)) ∧ Below W.heap.size W w') := fun W => refFits_any a b A m1 c W (by omega)
  have HF1 : Hid (∀ W, Calls Try.prog 77 #[.agg #[.int .i64 a2, .int .i64 b2, .slice A2 m2 c2]] W fun e w' => e = .returned (.bool (fitsB a2 b2 m2)) ∧ Below W.heap.size W w') := fun W => refFits_any a2 b2 A2 m2 c2 W (by omega)
  have HS : Hid (voS root u (r0, q0) (r1, q1) a b P a2 b2 R = (false, 0)) := by unfold Hid voS; rw [if_neg (by omega), hm1, hm2, if_neg (by rw [hv]; simp), hn]; rfl
  obtain ⟨g1, g2, g3⟩ := okV_b hv
  have ew : IntKind.i64.wrap (b + 1) = b + 1 := by rw [IntKind.wrap_i64]; omega
  have s0 : decide (u < 0) = false := by simp; omega
  have s1 : decide (64 ≤ u) = false := by simp; omega
  obtain ⟨x0, x1, x2, x3⟩ := okV_iff.1 hv
  rw [x0] at HE0
  rw [x1] at HE1
  rw [x2] at HF0
  rw [x3] at HF1
  have k0 : ((w.alloc (.cells (cellsB root).toArray 23)).alloc (.cells #[.int .i64 r0, .int .i64 q0, .int .i64 r1, .int .i64 q1, .int .i64 a, .int .i64 b, .slice A m1 c, .int .i64 a2, .int .i64 b2, .slice A2 m2 c2] 81)).cell? ⟨w.heap.size + 1, 0, none⟩ = some (.int .i64 r0) := (BA.out _ D0).cell 0; have k1 : ((w.alloc (.cells (cellsB root).toArray 23)).alloc (.cells #[.int .i64 r0, .int .i64 q0, .int .i64 r1, .int .i64 q1, .int .i64 a, .int .i64 b, .slice A m1 c, .int .i64 a2, .int .i64 b2, .slice A2 m2 c2] 81)).cell? ⟨w.heap.size + 1, 1, none⟩ = some (.int .i64 q0) := (BA.out _ D0).cell 1; have k2 : ((w.alloc (.cells (cellsB root).toArray 23)).alloc (.cells #[.int .i64 r0, .int .i64 q0, .int .i64 r1, .int .i64 q1, .int .i64 a, .int .i64 b, .slice A m1 c, .int .i64 a2, .int .i64 b2, .slice A2 m2 c2] 81)).cell? ⟨w.heap.size + 1, 2, none⟩ = some (.int .i64 r1) := (BA.out _ D0).cell 2; have k3 : ((w.alloc (.cells (cellsB root).toArray 23)).alloc (.cells #[.int .i64 r0, .int .i64 q0, .int .i64 r1, .int .i64 q1, .int .i64 a, .int .i64 b, .slice A m1 c, .int .i64 a2, .int .i64 b2, .slice A2 m2 c2] 81)).cell? ⟨w.heap.size + 1, 3, none⟩ = some (.int .i64 q1) := (BA.out _ D0).cell 3; have k4 : ((w.alloc (.cells (cellsB root).toArray 23)).alloc (.cells #[.int .i64 r0, .int .i64 q0, .int .i64 r1, .int .i64 q1, .int .i64 a, .int .i64 b, .slice A m1 c, .int .i64 a2, .int .i64 b2, .slice A2 m2 c2] 81)).cell? ⟨w.heap.size + 1, 4, none⟩ = some (.int .i64 a) := (BA.out _ D0).cell 4; have k5 : ((w.alloc (.cells (cellsB root).toArray 23)).alloc (.cells #[.int .i64 r0, .int .i64 q0, .int .i64 r1, .int .i64 q1, .int .i64 a, .int .i64 b, .slice A m1 c, .int .i64 a2, .int .i64 b2, .slice A2 m2 c2] 81)).cell? ⟨w.heap.size + 1, 5, none⟩ = some (.int .i64 b) := (BA.out _ D0).cell 5; have k6 : ((w.alloc (.cells (cellsB root).toArray 23)).alloc (.cells #[.int .i64 r0, .int .i64 q0, .int .i64 r1, .int .i64 q1, .int .i64 a, .int .i64 b, .slice A m1 c, .int .i64 a2, .int .i64 b2, .slice A2 m2 c2] 81)).cell? ⟨w.heap.size + 1, 6, none⟩ = some (.slice A m1 c) := (BA.out _ D0).cell 6; have k7 : ((w.alloc (.cells (cellsB root).toArray 23)).alloc (.cells #[.int .i64 r0, .int .i64 q0, .int .i64 r1, .int .i64 q1, .int .i64 a, .int .i64 b, .slice A m1 c, .int .i64 a2, .int .i64 b2, .slice A2 m2 c2] 81)).cell? ⟨w.heap.size + 1, 7, none⟩ = some (.int .i64 a2) := (BA.out _ D0).cell 7; have k8 : ((w.alloc (.cells (cellsB root).toArray 23)).alloc (.cells #[.int .i64 r0, .int .i64 q0, .int .i64 r1, .int .i64 q1, .int .i64 a, .int .i64 b, .slice A m1 c, .int .i64 a2, .int .i64 b2, .slice A2 m2 c2] 81)).cell? ⟨w.heap.size + 1, 8, none⟩ = some (.int .i64 b2) := (BA.out _ D0).cell 8; have k9 : ((w.alloc (.cells (cellsB root).toArray 23)).alloc (.cells #[.int .i64 r0, .int .i64 q0, .int .i64 r1, .int .i64 q1, .int .i64 a, .int .i64 b, .slice A m1 c, .int .i64 a2, .int .i64 b2, .slice A2 m2 c2] 81)).cell? ⟨w.heap.size + 1, 9, none⟩ = some (.slice A2 m2 c2) := (BA.out _ D0).cell 9
  have hways : (¬ r0 < u) ∨ (r0 < u ∧ ¬ u < r1) ∨ (r0 < u ∧ u < r1 ∧ ¬ a = a2) ∨ (r0 < u ∧ u < r1 ∧ a = a2 ∧ ¬ b2 = b + 1) := by
    rw [← nearB_iff_not] at hn
    omega
  clear hr hm1 hm2 h h2 h3 h4 hml1 hml2 hv x0 x1 x2 x3 hn
  rcases hways with n0 | ⟨n0, n1⟩ | ⟨n0, n1, n2⟩ | ⟨n0, n1, n2, n3⟩
  · have t0 : decide (r0 < u) = false := decide_eq_false n0
    clear n0 g1 g2 g3
    go_enter Try.func40, Try.ntmps40
    go_wp2_with (first
      | (go_at_call 92; (with_reducible refine (HE0.out _).mono ?_); rintro e w1 ⟨rfl, hb1⟩; clear k0 k1 k2 k3 k4 k5 k6 k7 k8 k9; have D1 := bel_on D0 hb1; clear hb1; have Q1 := BA.out _ D1; have k0 : w1.cell? ⟨w.heap.size + 1, 0, none⟩ = some (.int .i64 r0) := Q1.cell 0; have k1 : w1.cell? ⟨w.heap.size + 1, 1, none⟩ = some (.int .i64 q0) := Q1.cell 1; have k2 : w1.cell? ⟨w.heap.size + 1, 2, none⟩ = some (.int .i64 r1) := Q1.cell 2; have k3 : w1.cell? ⟨w.heap.size + 1, 3, none⟩ = some (.int .i64 q1) := Q1.cell 3; have k4 : w1.cell? ⟨w.heap.size + 1, 4, none⟩ = some (.int .i64 a) := Q1.cell 4; have k5 : w1.cell? ⟨w.heap.size + 1, 5, none⟩ = some (.int .i64 b) := Q1.cell 5; have k6 : w1.cell? ⟨w.heap.size + 1, 6, none⟩ = some (.slice A m1 c) := Q1.cell 6; have k7 : w1.cell? ⟨w.heap.size + 1, 7, none⟩ = some (.int .i64 a2) := Q1.cell 7; have k8 : w1.cell? ⟨w.heap.size + 1, 8, none⟩ = some (.int .i64 b2) := Q1.cell 8; have k9 : w1.cell? ⟨w.heap.size + 1, 9, none⟩ = some (.slice A2 m2 c2) := Q1.cell 9; clear Q1)
      | (go_at_call 92; (with_reducible refine (HE1.out _).mono ?_); rintro e w2 ⟨rfl, hb2⟩; clear k0 k1 k2 k3 k4 k5 k6 k7 k8 k9; have D2 := bel_on D1 hb2; clear hb2; have Q2 := BA.out _ D2; have k0 : w2.cell? ⟨w.heap.size + 1, 0, none⟩ = some (.int .i64 r0) := Q2.cell 0; have k1 : w2.cell? ⟨w.heap.size + 1, 1, none⟩ = some (.int .i64 q0) := Q2.cell 1; have k2 : w2.cell? ⟨w.heap.size + 1, 2, none⟩ = some (.int .i64 r1) := Q2.cell 2; have k3 : w2.cell? ⟨w.heap.size + 1, 3, none⟩ = some (.int .i64 q1) := Q2.cell 3; have k4 : w2.cell? ⟨w.heap.size + 1, 4, none⟩ = some (.int .i64 a) := Q2.cell 4; have k5 : w2.cell? ⟨w.heap.size + 1, 5, none⟩ = some (.int .i64 b) := Q2.cell 5; have k6 : w2.cell? ⟨w.heap.size + 1, 6, none⟩ = some (.slice A m1 c) := Q2.cell 6; have k7 : w2.cell? ⟨w.heap.size + 1, 7, none⟩ = some (.int .i64 a2) := Q2.cell 7; have k8 : w2.cell? ⟨w.heap.size + 1, 8, none⟩ = some (.int .i64 b2) := Q2.cell 8; have k9 : w2.cell? ⟨w.heap.size + 1, 9, none⟩ = some (.slice A2 m2 c2) := Q2.cell 9; clear Q2)
      | (go_at_call 77; (with_reducible refine (HF0.out _).mono ?_); rintro e w3 ⟨rfl, hb3⟩; clear k0 k1 k2 k3 k4 k5 k6 k7 k8 k9; have D3 := bel_on D2 hb3; clear hb3; have Q3 := BA.out _ D3; have k0 : w3.cell? ⟨w.heap.size + 1, 0, none⟩ = some (.int .i64 r0) := Q3.cell 0; have k1 : w3.cell? ⟨w.heap.size + 1, 1, none⟩ = some (.int .i64 q0) := Q3.cell 1; have k2 : w3.cell? ⟨w.heap.size + 1, 2, none⟩ = some (.int .i64 r1) := Q3.cell 2; have k3 : w3.cell? ⟨w.heap.size + 1, 3, none⟩ = some (.int .i64 q1) := Q3.cell 3; have k4 : w3.cell? ⟨w.heap.size + 1, 4, none⟩ = some (.int .i64 a) := Q3.cell 4; have k5 : w3.cell? ⟨w.heap.size + 1, 5, none⟩ = some (.int .i64 b) := Q3.cell 5; have k6 : w3.cell? ⟨w.heap.size + 1, 6, none⟩ = some (.slice A m1 c) := Q3.cell 6; have k7 : w3.cell? ⟨w.heap.size + 1, 7, none⟩ = some (.int .i64 a2) := Q3.cell 7; have k8 : w3.cell? ⟨w.heap.size + 1, 8, none⟩ = some (.int .i64 b2) := Q3.cell 8; have k9 : w3.cell? ⟨w.heap.size + 1, 9, none⟩ = some (.slice A2 m2 c2) := Q3.cell 9; clear Q3)
      | (go_at_call 77; (with_reducible refine (HF1.out _).mono ?_); rintro e w4 ⟨rfl, hb4⟩; clear k0 k1 k2 k3 k4 k5 k6 k7 k8 k9; have D4 := bel_on D3 hb4; clear hb4; have Q4 := BA.out _ D4; have k0 : w4.cell? ⟨w.heap.size + 1, 0, none⟩ = some (.int .i64 r0) := Q4.cell 0; have k1 : w4.cell? ⟨w.heap.size + 1, 1, none⟩ = some (.int .i64 q0) := Q4.cell 1; have k2 : w4.cell? ⟨w.heap.size + 1, 2, none⟩ = some (.int .i64 r1) := Q4.cell 2; have k3 : w4.cell? ⟨w.heap.size + 1, 3, none⟩ = some (.int .i64 q1) := Q4.cell 3; have k4 : w4.cell? ⟨w.heap.size + 1, 4, none⟩ = some (.int .i64 a) := Q4.cell 4; have k5 : w4.cell? ⟨w.heap.size + 1, 5, none⟩ = some (.int .i64 b) := Q4.cell 5; have k6 : w4.cell? ⟨w.heap.size + 1, 6, none⟩ = some (.slice A m1 c) := Q4.cell 6; have k7 : w4.cell? ⟨w.heap.size + 1, 7, none⟩ = some (.int .i64 a2) := Q4.cell 7; have k8 : w4.cell? ⟨w.heap.size + 1, 8, none⟩ = some (.int .i64 b2) := Q4.cell 8; have k9 : w4.cell? ⟨w.heap.size + 1, 9, none⟩ = some (.slice A2 m2 c2) := Q4.cell 9; clear Q4))
    go_quiet (fail)
    go_wp2_with fail
    go_ret2
    rw [HS.out]
    exact ⟨rfl, below_drewN (bel_on b0 D4) _⟩
  · have t0 : decide (r0 < u) = true := decide_eq_true n0
    have t1 : decide (u < r1) = false := decide_eq_false n1
    clear n0 n1 g1 g2 g3
    go_enter Try.func40, Try.ntmps40
    go_wp2_with (first
      | (go_at_call 92; (with_reducible refine (HE0.out _).mono ?_); rintro e w1 ⟨rfl, hb1⟩; clear k0 k1 k2 k3 k4 k5 k6 k7 k8 k9; have D1 := bel_on D0 hb1; clear hb1; have Q1 := BA.out _ D1; have k0 : w1.cell? ⟨w.heap.size + 1, 0, none⟩ = some (.int .i64 r0) := Q1.cell 0; have k1 : w1.cell? ⟨w.heap.size + 1, 1, none⟩ = some (.int .i64 q0) := Q1.cell 1; have k2 : w1.cell? ⟨w.heap.size + 1, 2, none⟩ = some (.int .i64 r1) := Q1.cell 2; have k3 : w1.cell? ⟨w.heap.size + 1, 3, none⟩ = some (.int .i64 q1) := Q1.cell 3; have k4 : w1.cell? ⟨w.heap.size + 1, 4, none⟩ = some (.int .i64 a) := Q1.cell 4; have k5 : w1.cell? ⟨w.heap.size + 1, 5, none⟩ = some (.int .i64 b) := Q1.cell 5; have k6 : w1.cell? ⟨w.heap.size + 1, 6, none⟩ = some (.slice A m1 c) := Q1.cell 6; have k7 : w1.cell? ⟨w.heap.size + 1, 7, none⟩ = some (.int .i64 a2) := Q1.cell 7; have k8 : w1.cell? ⟨w.heap.size + 1, 8, none⟩ = some (.int .i64 b2) := Q1.cell 8; have k9 : w1.cell? ⟨w.heap.size + 1, 9, none⟩ = some (.slice A2 m2 c2) := Q1.cell 9; clear Q1)
      | (go_at_call 92; (with_reducible refine (HE1.out _).mono ?_); rintro e w2 ⟨rfl, hb2⟩; clear k0 k1 k2 k3 k4 k5 k6 k7 k8 k9; have D2 := bel_on D1 hb2; clear hb2; have Q2 := BA.out _ D2; have k0 : w2.cell? ⟨w.heap.size + 1, 0, none⟩ = some (.int .i64 r0) := Q2.cell 0; have k1 : w2.cell? ⟨w.heap.size + 1, 1, none⟩ = some (.int .i64 q0) := Q2.cell 1; have k2 : w2.cell? ⟨w.heap.size + 1, 2, none⟩ = some (.int .i64 r1) := Q2.cell 2; have k3 : w2.cell? ⟨w.heap.size + 1, 3, none⟩ = some (.int .i64 q1) := Q2.cell 3; have k4 : w2.cell? ⟨w.heap.size + 1, 4, none⟩ = some (.int .i64 a) := Q2.cell 4; have k5 : w2.cell? ⟨w.heap.size + 1, 5, none⟩ = some (.int .i64 b) := Q2.cell 5; have k6 : w2.cell? ⟨w.heap.size + 1, 6, none⟩ = some (.slice A m1 c) := Q2.cell 6; have k7 : w2.cell? ⟨w.heap.size + 1, 7, none⟩ = some (.int .i64 a2) := Q2.cell 7; have k8 : w2.cell? ⟨w.heap.size + 1, 8, none⟩ = some (.int .i64 b2) := Q2.cell 8; have k9 : w2.cell? ⟨w.heap.size + 1, 9, none⟩ = some (.slice A2 m2 c2) := Q2.cell 9; clear Q2)
      | (go_at_call 77; (with_reducible refine (HF0.out _).mono ?_); rintro e w3 ⟨rfl, hb3⟩; clear k0 k1 k2 k3 k4 k5 k6 k7 k8 k9; have D3 := bel_on D2 hb3; clear hb3; have Q3 := BA.out _ D3; have k0 : w3.cell? ⟨w.heap.size + 1, 0, none⟩ = some (.int .i64 r0) := Q3.cell 0; have k1 : w3.cell? ⟨w.heap.size + 1, 1, none⟩ = some (.int .i64 q0) := Q3.cell 1; have k2 : w3.cell? ⟨w.heap.size + 1, 2, none⟩ = some (.int .i64 r1) := Q3.cell 2; have k3 : w3.cell? ⟨w.heap.size + 1, 3, none⟩ = some (.int .i64 q1) := Q3.cell 3; have k4 : w3.cell? ⟨w.heap.size + 1, 4, none⟩ = some (.int .i64 a) := Q3.cell 4; have k5 : w3.cell? ⟨w.heap.size + 1, 5, none⟩ = some (.int .i64 b) := Q3.cell 5; have k6 : w3.cell? ⟨w.heap.size + 1, 6, none⟩ = some (.slice A m1 c) := Q3.cell 6; have k7 : w3.cell? ⟨w.heap.size + 1, 7, none⟩ = some (.int .i64 a2) := Q3.cell 7; have k8 : w3.cell? ⟨w.heap.size + 1, 8, none⟩ = some (.int .i64 b2) := Q3.cell 8; have k9 : w3.cell? ⟨w.heap.size + 1, 9, none⟩ = some (.slice A2 m2 c2) := Q3.cell 9; clear Q3)
      | (go_at_call 77; (with_reducible refine (HF1.out _).mono ?_); rintro e w4 ⟨rfl, hb4⟩; clear k0 k1 k2 k3 k4 k5 k6 k7 k8 k9; have D4 := bel_on D3 hb4; clear hb4; have Q4 := BA.out _ D4; have k0 : w4.cell? ⟨w.heap.size + 1, 0, none⟩ = some (.int .i64 r0) := Q4.cell 0; have k1 : w4.cell? ⟨w.heap.size + 1, 1, none⟩ = some (.int .i64 q0) := Q4.cell 1; have k2 : w4.cell? ⟨w.heap.size + 1, 2, none⟩ = some (.int .i64 r1) := Q4.cell 2; have k3 : w4.cell? ⟨w.heap.size + 1, 3, none⟩ = some (.int .i64 q1) := Q4.cell 3; have k4 : w4.cell? ⟨w.heap.size + 1, 4, none⟩ = some (.int .i64 a) := Q4.cell 4; have k5 : w4.cell? ⟨w.heap.size + 1, 5, none⟩ = some (.int .i64 b) := Q4.cell 5; have k6 : w4.cell? ⟨w.heap.size + 1, 6, none⟩ = some (.slice A m1 c) := Q4.cell 6; have k7 : w4.cell? ⟨w.heap.size + 1, 7, none⟩ = some (.int .i64 a2) := Q4.cell 7; have k8 : w4.cell? ⟨w.heap.size + 1, 8, none⟩ = some (.int .i64 b2) := Q4.cell 8; have k9 : w4.cell? ⟨w.heap.size + 1, 9, none⟩ = some (.slice A2 m2 c2) := Q4.cell 9; clear Q4))
    go_quiet (fail)
    go_wp2_with fail
    go_ret2
    rw [HS.out]
    exact ⟨rfl, below_drewN (bel_on b0 D4) _⟩
  · have t0 : decide (r0 < u) = true := decide_eq_true n0
    have t1 : decide (u < r1) = true := decide_eq_true n1
    have t2 : (a == a2) = false := by simp; omega
    clear n0 n1 n2 g1 g2 g3
    go_enter Try.func40, Try.ntmps40
    go_wp2_with (first
      | (go_at_call 92; (with_reducible refine (HE0.out _).mono ?_); rintro e w1 ⟨rfl, hb1⟩; clear k0 k1 k2 k3 k4 k5 k6 k7 k8 k9; have D1 := bel_on D0 hb1; clear hb1; have Q1 := BA.out _ D1; have k0 : w1.cell? ⟨w.heap.size + 1, 0, none⟩ = some (.int .i64 r0) := Q1.cell 0; have k1 : w1.cell? ⟨w.heap.size + 1, 1, none⟩ = some (.int .i64 q0) := Q1.cell 1; have k2 : w1.cell? ⟨w.heap.size + 1, 2, none⟩ = some (.int .i64 r1) := Q1.cell 2; have k3 : w1.cell? ⟨w.heap.size + 1, 3, none⟩ = some (.int .i64 q1) := Q1.cell 3; have k4 : w1.cell? ⟨w.heap.size + 1, 4, none⟩ = some (.int .i64 a) := Q1.cell 4; have k5 : w1.cell? ⟨w.heap.size + 1, 5, none⟩ = some (.int .i64 b) := Q1.cell 5; have k6 : w1.cell? ⟨w.heap.size + 1, 6, none⟩ = some (.slice A m1 c) := Q1.cell 6; have k7 : w1.cell? ⟨w.heap.size + 1, 7, none⟩ = some (.int .i64 a2) := Q1.cell 7; have k8 : w1.cell? ⟨w.heap.size + 1, 8, none⟩ = some (.int .i64 b2) := Q1.cell 8; have k9 : w1.cell? ⟨w.heap.size + 1, 9, none⟩ = some (.slice A2 m2 c2) := Q1.cell 9; clear Q1)
      | (go_at_call 92; (with_reducible refine (HE1.out _).mono ?_); rintro e w2 ⟨rfl, hb2⟩; clear k0 k1 k2 k3 k4 k5 k6 k7 k8 k9; have D2 := bel_on D1 hb2; clear hb2; have Q2 := BA.out _ D2; have k0 : w2.cell? ⟨w.heap.size + 1, 0, none⟩ = some (.int .i64 r0) := Q2.cell 0; have k1 : w2.cell? ⟨w.heap.size + 1, 1, none⟩ = some (.int .i64 q0) := Q2.cell 1; have k2 : w2.cell? ⟨w.heap.size + 1, 2, none⟩ = some (.int .i64 r1) := Q2.cell 2; have k3 : w2.cell? ⟨w.heap.size + 1, 3, none⟩ = some (.int .i64 q1) := Q2.cell 3; have k4 : w2.cell? ⟨w.heap.size + 1, 4, none⟩ = some (.int .i64 a) := Q2.cell 4; have k5 : w2.cell? ⟨w.heap.size + 1, 5, none⟩ = some (.int .i64 b) := Q2.cell 5; have k6 : w2.cell? ⟨w.heap.size + 1, 6, none⟩ = some (.slice A m1 c) := Q2.cell 6; have k7 : w2.cell? ⟨w.heap.size + 1, 7, none⟩ = some (.int .i64 a2) := Q2.cell 7; have k8 : w2.cell? ⟨w.heap.size + 1, 8, none⟩ = some (.int .i64 b2) := Q2.cell 8; have k9 : w2.cell? ⟨w.heap.size + 1, 9, none⟩ = some (.slice A2 m2 c2) := Q2.cell 9; clear Q2)
      | (go_at_call 77; (with_reducible refine (HF0.out _).mono ?_); rintro e w3 ⟨rfl, hb3⟩; clear k0 k1 k2 k3 k4 k5 k6 k7 k8 k9; have D3 := bel_on D2 hb3; clear hb3; have Q3 := BA.out _ D3; have k0 : w3.cell? ⟨w.heap.size + 1, 0, none⟩ = some (.int .i64 r0) := Q3.cell 0; have k1 : w3.cell? ⟨w.heap.size + 1, 1, none⟩ = some (.int .i64 q0) := Q3.cell 1; have k2 : w3.cell? ⟨w.heap.size + 1, 2, none⟩ = some (.int .i64 r1) := Q3.cell 2; have k3 : w3.cell? ⟨w.heap.size + 1, 3, none⟩ = some (.int .i64 q1) := Q3.cell 3; have k4 : w3.cell? ⟨w.heap.size + 1, 4, none⟩ = some (.int .i64 a) := Q3.cell 4; have k5 : w3.cell? ⟨w.heap.size + 1, 5, none⟩ = some (.int .i64 b) := Q3.cell 5; have k6 : w3.cell? ⟨w.heap.size + 1, 6, none⟩ = some (.slice A m1 c) := Q3.cell 6; have k7 : w3.cell? ⟨w.heap.size + 1, 7, none⟩ = some (.int .i64 a2) := Q3.cell 7; have k8 : w3.cell? ⟨w.heap.size + 1, 8, none⟩ = some (.int .i64 b2) := Q3.cell 8; have k9 : w3.cell? ⟨w.heap.size + 1, 9, none⟩ = some (.slice A2 m2 c2) := Q3.cell 9; clear Q3)
      | (go_at_call 77; (with_reducible refine (HF1.out _).mono ?_); rintro e w4 ⟨rfl, hb4⟩; clear k0 k1 k2 k3 k4 k5 k6 k7 k8 k9; have D4 := bel_on D3 hb4; clear hb4; have Q4 := BA.out _ D4; have k0 : w4.cell? ⟨w.heap.size + 1, 0, none⟩ = some (.int .i64 r0) := Q4.cell 0; have k1 : w4.cell? ⟨w.heap.size + 1, 1, none⟩ = some (.int .i64 q0) := Q4.cell 1; have k2 : w4.cell? ⟨w.heap.size + 1, 2, none⟩ = some (.int .i64 r1) := Q4.cell 2; have k3 : w4.cell? ⟨w.heap.size + 1, 3, none⟩ = some (.int .i64 q1) := Q4.cell 3; have k4 : w4.cell? ⟨w.heap.size + 1, 4, none⟩ = some (.int .i64 a) := Q4.cell 4; have k5 : w4.cell? ⟨w.heap.size + 1, 5, none⟩ = some (.int .i64 b) := Q4.cell 5; have k6 : w4.cell? ⟨w.heap.size + 1, 6, none⟩ = some (.slice A m1 c) := Q4.cell 6; have k7 : w4.cell? ⟨w.heap.size + 1, 7, none⟩ = some (.int .i64 a2) := Q4.cell 7; have k8 : w4.cell? ⟨w.heap.size + 1, 8, none⟩ = some (.int .i64 b2) := Q4.cell 8; have k9 : w4.cell? ⟨w.heap.size + 1, 9, none⟩ = some (.slice A2 m2 c2) := Q4.cell 9; clear Q4))
    go_quiet (fail)
    go_wp2_with fail
    go_ret2
    rw [HS.out]
    exact ⟨rfl, below_drewN (bel_on b0 D4) _⟩
  · have t0 : decide (r0 < u) = true := decide_eq_true n0
    have t1 : decide (u < r1) = true := decide_eq_true n1
    have t2 : (a == a2) = true := by simp; omega
    have t3 : (b2 == b + 1) = false := by simp; omega
    clear n0 n1 n2 n3 g1 g2 g3
    go_enter Try.func40, Try.ntmps40
    go_wp2_with (first
      | (go_at_call 92; (with_reducible refine (HE0.out _).mono ?_); rintro e w1 ⟨rfl, hb1⟩; clear k0 k1 k2 k3 k4 k5 k6 k7 k8 k9; have D1 := bel_on D0 hb1; clear hb1; have Q1 := BA.out _ D1; have k0 : w1.cell? ⟨w.heap.size + 1, 0, none⟩ = some (.int .i64 r0) := Q1.cell 0; have k1 : w1.cell? ⟨w.heap.size + 1, 1, none⟩ = some (.int .i64 q0) := Q1.cell 1; have k2 : w1.cell? ⟨w.heap.size + 1, 2, none⟩ = some (.int .i64 r1) := Q1.cell 2; have k3 : w1.cell? ⟨w.heap.size + 1, 3, none⟩ = some (.int .i64 q1) := Q1.cell 3; have k4 : w1.cell? ⟨w.heap.size + 1, 4, none⟩ = some (.int .i64 a) := Q1.cell 4; have k5 : w1.cell? ⟨w.heap.size + 1, 5, none⟩ = some (.int .i64 b) := Q1.cell 5; have k6 : w1.cell? ⟨w.heap.size + 1, 6, none⟩ = some (.slice A m1 c) := Q1.cell 6; have k7 : w1.cell? ⟨w.heap.size + 1, 7, none⟩ = some (.int .i64 a2) := Q1.cell 7; have k8 : w1.cell? ⟨w.heap.size + 1, 8, none⟩ = some (.int .i64 b2) := Q1.cell 8; have k9 : w1.cell? ⟨w.heap.size + 1, 9, none⟩ = some (.slice A2 m2 c2) := Q1.cell 9; clear Q1)
      | (go_at_call 92; (with_reducible refine (HE1.out _).mono ?_); rintro e w2 ⟨rfl, hb2⟩; clear k0 k1 k2 k3 k4 k5 k6 k7 k8 k9; have D2 := bel_on D1 hb2; clear hb2; have Q2 := BA.out _ D2; have k0 : w2.cell? ⟨w.heap.size + 1, 0, none⟩ = some (.int .i64 r0) := Q2.cell 0; have k1 : w2.cell? ⟨w.heap.size + 1, 1, none⟩ = some (.int .i64 q0) := Q2.cell 1; have k2 : w2.cell? ⟨w.heap.size + 1, 2, none⟩ = some (.int .i64 r1) := Q2.cell 2; have k3 : w2.cell? ⟨w.heap.size + 1, 3, none⟩ = some (.int .i64 q1) := Q2.cell 3; have k4 : w2.cell? ⟨w.heap.size + 1, 4, none⟩ = some (.int .i64 a) := Q2.cell 4; have k5 : w2.cell? ⟨w.heap.size + 1, 5, none⟩ = some (.int .i64 b) := Q2.cell 5; have k6 : w2.cell? ⟨w.heap.size + 1, 6, none⟩ = some (.slice A m1 c) := Q2.cell 6; have k7 : w2.cell? ⟨w.heap.size + 1, 7, none⟩ = some (.int .i64 a2) := Q2.cell 7; have k8 : w2.cell? ⟨w.heap.size + 1, 8, none⟩ = some (.int .i64 b2) := Q2.cell 8; have k9 : w2.cell? ⟨w.heap.size + 1, 9, none⟩ = some (.slice A2 m2 c2) := Q2.cell 9; clear Q2)
      | (go_at_call 77; (with_reducible refine (HF0.out _).mono ?_); rintro e w3 ⟨rfl, hb3⟩; clear k0 k1 k2 k3 k4 k5 k6 k7 k8 k9; have D3 := bel_on D2 hb3; clear hb3; have Q3 := BA.out _ D3; have k0 : w3.cell? ⟨w.heap.size + 1, 0, none⟩ = some (.int .i64 r0) := Q3.cell 0; have k1 : w3.cell? ⟨w.heap.size + 1, 1, none⟩ = some (.int .i64 q0) := Q3.cell 1; have k2 : w3.cell? ⟨w.heap.size + 1, 2, none⟩ = some (.int .i64 r1) := Q3.cell 2; have k3 : w3.cell? ⟨w.heap.size + 1, 3, none⟩ = some (.int .i64 q1) := Q3.cell 3; have k4 : w3.cell? ⟨w.heap.size + 1, 4, none⟩ = some (.int .i64 a) := Q3.cell 4; have k5 : w3.cell? ⟨w.heap.size + 1, 5, none⟩ = some (.int .i64 b) := Q3.cell 5; have k6 : w3.cell? ⟨w.heap.size + 1, 6, none⟩ = some (.slice A m1 c) := Q3.cell 6; have k7 : w3.cell? ⟨w.heap.size + 1, 7, none⟩ = some (.int .i64 a2) := Q3.cell 7; have k8 : w3.cell? ⟨w.heap.size + 1, 8, none⟩ = some (.int .i64 b2) := Q3.cell 8; have k9 : w3.cell? ⟨w.heap.size + 1, 9, none⟩ = some (.slice A2 m2 c2) := Q3.cell 9; clear Q3)
      | (go_at_call 77; (with_reducible refine (HF1.out _).mono ?_); rintro e w4 ⟨rfl, hb4⟩; clear k0 k1 k2 k3 k4 k5 k6 k7 k8 k9; have D4 := bel_on D3 hb4; clear hb4; have Q4 := BA.out _ D4; have k0 : w4.cell? ⟨w.heap.size + 1, 0, none⟩ = some (.int .i64 r0) := Q4.cell 0; have k1 : w4.cell? ⟨w.heap.size + 1, 1, none⟩ = some (.int .i64 q0) := Q4.cell 1; have k2 : w4.cell? ⟨w.heap.size + 1, 2, none⟩ = some (.int .i64 r1) := Q4.cell 2; have k3 : w4.cell? ⟨w.heap.size + 1, 3, none⟩ = some (.int .i64 q1) := Q4.cell 3; have k4 : w4.cell? ⟨w.heap.size + 1, 4, none⟩ = some (.int .i64 a) := Q4.cell 4; have k5 : w4.cell? ⟨w.heap.size + 1, 5, none⟩ = some (.int .i64 b) := Q4.cell 5; have k6 : w4.cell? ⟨w.heap.size + 1, 6, none⟩ = some (.slice A m1 c) := Q4.cell 6; have k7 : w4.cell? ⟨w.heap.size + 1, 7, none⟩ = some (.int .i64 a2) := Q4.cell 7; have k8 : w4.cell? ⟨w.heap.size + 1, 8, none⟩ = some (.int .i64 b2) := Q4.cell 8; have k9 : w4.cell? ⟨w.heap.size + 1, 9, none⟩ = some (.slice A2 m2 c2) := Q4.cell 9; clear Q4))
    go_quiet (fail)
    go_wp2_with fail
    go_ret2
    rw [HS.out]
    exact ⟨rfl, below_drewN (bel_on b0 D4) _⟩

set_option maxHeartbeats 16000000 in
set_option maxRecDepth 100000 in
theorem refVoff_near (root : List UInt8) (u r0 q0 r1 q1 a b a2 b2 : Int) (P R : List (List UInt8)) (A A2 : Option Addr) (c c2 : Nat) (w : World) {m1 m2 : Nat} (hr : root.length = 16) (hm1 : P.length = m1) (hm2 : R.length = m2) (h : KR w A c P) (h2 : KR w A2 c2 R) (h3 : 0 ≤ u) (h4 : u < 64) (hv : okV (r0, q0) (r1, q1) a b m1 a2 b2 m2 = true) (n0 : r0 < u) (n1 : u < r1) (n2 : a = a2) (n3 : b + 1 = b2) :
    Calls Try.prog 40 #[.agg (cellsB root).toArray, .int .i64 u, .agg #[.int .i64 r0, .int .i64 q0, .int .i64 r1, .int .i64 q1, .int .i64 a, .int .i64 b, .slice A m1 c, .int .i64 a2, .int .i64 b2, .slice A2 m2 c2]] w fun e w' => e = .returned (.tuple #[.bool (voS root u (r0, q0) (r1, q1) a b P a2 b2 R).1, .int .i64 (voS root u (r0, q0) (r1, q1) a b P a2 b2 R).2]) ∧ Below w.heap.size w w' := by
  have b0 := alloc2_bel w (.cells (cellsB root).toArray 23) (.cells #[.int .i64 r0, .int .i64 q0, .int .i64 r1, .int .i64 q1, .int .i64 a, .int .i64 b, .slice A m1 c, .int .i64 a2, .int .i64 b2, .slice A2 m2 c2] 81)
  have hml1 := h.len
  have hml2 := h2.len
  have BA : Hid (∀ W, Below ((w.alloc (.cells (cellsB root).toArray 23)).alloc (.cells #[.int .i64 r0, .int .i64 q0, .int .i64 r1, .int .i64 q1, .int .i64 a, .int .i64 b, .slice A m1 c, .int .i64 a2, .int .i64 b2, .slice A2 m2 c2] 81)).heap.size ((w.alloc (.cells (cellsB root).toArray 23)).alloc (.cells #[.int .i64 r0, .int .i64 q0, .int .i64 r1, .int .i64 q1, .int .i64 a, .int .i64 b, .slice A m1 c, .int .i64 a2, .int .i64 b2, .slice A2 m2 c2] 81)) W → Blk W (w.heap.size + 1) 81 #[.int .i64 r0, .int .i64 q0, .int .i64 r1, .int .i64 q1, .int .i64 a, .int .i64 b, .slice A m1 c, .int .i64 a2, .int .i64 b2, .slice A2 m2 c2]) := fun W hW => (blk_b1 w (.cells (cellsB root).toArray 23) #[.int .i64 r0, .int .i64 q0, .int .i64 r1, .int .i64 q1, .int .i64 a, .int .i64 b, .slice A m1 c, .int .i64 a2, .int .i64 b2, .slice A2 m2 c2] 81).below' hW
  have BR : Hid (∀ W, Below ((w.alloc (.cells (cellsB root).toArray 23)).alloc (.cells #[.int .i64 r0, .int .i64 q0, .int .i64 r1, .int .i64 q1, .int .i64 a, .int .i64 b, .slice A m1 c, .int .i64 a2, .int .i64 b2, .slice A2 m2 c2] 81)).heap.size ((w.alloc (.cells (cellsB root).toArray 23)).alloc (.cells #[.int .i64 r0, .int .i64 q0, .int .i64 r1, .int .i64 q1, .int .i64 a, .int .i64 b, .slice A m1 c, .int .i64 a2, .int .i64 b2, .slice A2 m2 c2] 81)) W → Blk W w.heap.size 23 (cellsB root).toArray) := fun W hW => (blk_b0 w (cellsB root).toArray 23 (.cells #[.int .i64 r0, .int .i64 q0, .int .i64 r1, .int .i64 q1, .int .i64 a, .int .i64 b, .slice A m1 c, .int .i64 a2, .int .i64 b2, .slice A2 m2 c2] 81)).below' hW
  have D0 : Below ((w.alloc (.cells (cellsB root).toArray 23)).alloc (.cells #[.int .i64 r0, .int .i64 q0, .int .i64 r1, .int .i64 q1, .int .i64 a, .int .i64 b, .slice A m1 c, .int .i64 a2, .int .i64 b2, .slice A2 m2 c2] 81)).heap.size ((w.alloc (.cells (cellsB root).toArray 23)).alloc (.cells #[.int .i64 r0, .int .i64 q0, .int .i64 r1, .int .i64 q1, .int .i64 a, .int .i64 b, .slice A m1 c, .int .i64 a2, .int .i64 b2, .slice A2 m2 c2] 81)) ((w.alloc (.cells (cellsB root).toArray 23)).alloc (.cells #[.int .i64 r0, .int .i64 q0, .int .i64 r1, .int .i64 q1, .int .i64 a, .int .i64 b, .slice A m1 c, .int .i64 a2, .int .i64 b2, .slice A2 m2 c2] 81)) := Below.refl _ _
  have HE0 : Hid (∀ W, Calls Try.prog 92 #[.agg #[.int .i64 r0, .int .i64 q0]] W fun e w' => e = .returned (.bool (isE (r0, q0))) ∧ Below W.heap.size W w') := fun W => refIsEntry_any r0 q0 W
  have HE1 : Hid (∀ W, Calls Try.prog 92 #[.agg #[.int .i64 r1, .int .i64 q1]] W fun e w' => e = .returned (.bool (isE (r1, q1))) ∧ Below W.heap.size W w') := fun W => refIsEntry_any r1 q1 W
  have HF0 : Hid (∀ W, Calls Try.prog 77 #[.agg #[.int .i64 a, .int .i64 b, .slice A m1 c]] W fun e w' => e = .returned (.bool (fitsB a b m1)) ∧ Below W.heap.size W w') := fun W => refFits_any a b A m1 c W (by omega)
  have HF1 : Hid (∀ W, Calls Try.prog 77 #[.agg #[.int .i64 a2, .int .i64 b2, .slice A2 m2 c2]] W fun e w' => e = .returned (.bool (fitsB a2 b2 m2)) ∧ Below W.heap.size W w') := fun W => refFits_any a2 b2 A2 m2 c2 W (by omega)
  obtain ⟨v0, hv0⟩ : ∃ v, ((climbS (leafE (r0, q0)) a.toNat b.toNat P).1 == root) = v := ⟨_, rfl⟩
  obtain ⟨v1, hv1⟩ : ∃ v, ((climbS (leafE (r1, q1)) a2.toNat b2.toNat R).1 == root) = v := ⟨_, rfl⟩
  have HS : Hid (voS root u (r0, q0) (r1, q1) a b P a2 b2 R = (v0 && v1, 0)) := by unfold Hid voS; rw [if_neg (by omega), hm1, hm2, if_neg (by rw [hv]; simp), nearB_yes n0 n1 n2 n3, hv0, hv1]; rfl
  obtain ⟨g1, g2, g3⟩ := okV_b hv
  have ew : IntKind.i64.wrap (b + 1) = b + 1 := by rw [IntKind.wrap_i64]; omega
  have t0 : decide (r0 < u) = true := decide_eq_true n0
  have t1 : decide (u < r1) = true := decide_eq_true n1
  have t2 : (a == a2) = true := by simp; omega
  have t3 : (b2 == b + 1) = true := by simp; omega
  have s0 : decide (u < 0) = false := by simp; omega
  have s1 : decide (64 ≤ u) = false := by simp; omega
  obtain ⟨x0, x1, x2, x3⟩ := okV_iff.1 hv
  rw [x0] at HE0
  rw [x1] at HE1
  rw [x2] at HF0
  rw [x3] at HF1
  have k0 : ((w.alloc (.cells (cellsB root).toArray 23)).alloc (.cells #[.int .i64 r0, .int .i64 q0, .int .i64 r1, .int .i64 q1, .int .i64 a, .int .i64 b, .slice A m1 c, .int .i64 a2, .int .i64 b2, .slice A2 m2 c2] 81)).cell? ⟨w.heap.size + 1, 0, none⟩ = some (.int .i64 r0) := (BA.out _ D0).cell 0; have k1 : ((w.alloc (.cells (cellsB root).toArray 23)).alloc (.cells #[.int .i64 r0, .int .i64 q0, .int .i64 r1, .int .i64 q1, .int .i64 a, .int .i64 b, .slice A m1 c, .int .i64 a2, .int .i64 b2, .slice A2 m2 c2] 81)).cell? ⟨w.heap.size + 1, 1, none⟩ = some (.int .i64 q0) := (BA.out _ D0).cell 1; have k2 : ((w.alloc (.cells (cellsB root).toArray 23)).alloc (.cells #[.int .i64 r0, .int .i64 q0, .int .i64 r1, .int .i64 q1, .int .i64 a, .int .i64 b, .slice A m1 c, .int .i64 a2, .int .i64 b2, .slice A2 m2 c2] 81)).cell? ⟨w.heap.size + 1, 2, none⟩ = some (.int .i64 r1) := (BA.out _ D0).cell 2; have k3 : ((w.alloc (.cells (cellsB root).toArray 23)).alloc (.cells #[.int .i64 r0, .int .i64 q0, .int .i64 r1, .int .i64 q1, .int .i64 a, .int .i64 b, .slice A m1 c, .int .i64 a2, .int .i64 b2, .slice A2 m2 c2] 81)).cell? ⟨w.heap.size + 1, 3, none⟩ = some (.int .i64 q1) := (BA.out _ D0).cell 3; have k4 : ((w.alloc (.cells (cellsB root).toArray 23)).alloc (.cells #[.int .i64 r0, .int .i64 q0, .int .i64 r1, .int .i64 q1, .int .i64 a, .int .i64 b, .slice A m1 c, .int .i64 a2, .int .i64 b2, .slice A2 m2 c2] 81)).cell? ⟨w.heap.size + 1, 4, none⟩ = some (.int .i64 a) := (BA.out _ D0).cell 4; have k5 : ((w.alloc (.cells (cellsB root).toArray 23)).alloc (.cells #[.int .i64 r0, .int .i64 q0, .int .i64 r1, .int .i64 q1, .int .i64 a, .int .i64 b, .slice A m1 c, .int .i64 a2, .int .i64 b2, .slice A2 m2 c2] 81)).cell? ⟨w.heap.size + 1, 5, none⟩ = some (.int .i64 b) := (BA.out _ D0).cell 5; have k6 : ((w.alloc (.cells (cellsB root).toArray 23)).alloc (.cells #[.int .i64 r0, .int .i64 q0, .int .i64 r1, .int .i64 q1, .int .i64 a, .int .i64 b, .slice A m1 c, .int .i64 a2, .int .i64 b2, .slice A2 m2 c2] 81)).cell? ⟨w.heap.size + 1, 6, none⟩ = some (.slice A m1 c) := (BA.out _ D0).cell 6; have k7 : ((w.alloc (.cells (cellsB root).toArray 23)).alloc (.cells #[.int .i64 r0, .int .i64 q0, .int .i64 r1, .int .i64 q1, .int .i64 a, .int .i64 b, .slice A m1 c, .int .i64 a2, .int .i64 b2, .slice A2 m2 c2] 81)).cell? ⟨w.heap.size + 1, 7, none⟩ = some (.int .i64 a2) := (BA.out _ D0).cell 7; have k8 : ((w.alloc (.cells (cellsB root).toArray 23)).alloc (.cells #[.int .i64 r0, .int .i64 q0, .int .i64 r1, .int .i64 q1, .int .i64 a, .int .i64 b, .slice A m1 c, .int .i64 a2, .int .i64 b2, .slice A2 m2 c2] 81)).cell? ⟨w.heap.size + 1, 8, none⟩ = some (.int .i64 b2) := (BA.out _ D0).cell 8; have k9 : ((w.alloc (.cells (cellsB root).toArray 23)).alloc (.cells #[.int .i64 r0, .int .i64 q0, .int .i64 r1, .int .i64 q1, .int .i64 a, .int .i64 b, .slice A m1 c, .int .i64 a2, .int .i64 b2, .slice A2 m2 c2] 81)).cell? ⟨w.heap.size + 1, 9, none⟩ = some (.slice A2 m2 c2) := (BA.out _ D0).cell 9
  have HL0 : Hid (∀ W, Calls Try.prog 93 #[.agg #[.int .i64 r0, .int .i64 q0]] W fun e w' => e = .returned (.agg (cellsB (leafE (r0, q0))).toArray) ∧ Below W.heap.size W w') := fun W => refLeaf_any r0 q0 W x0
  have HL1 : Hid (∀ W, Calls Try.prog 93 #[.agg #[.int .i64 r1, .int .i64 q1]] W fun e w' => e = .returned (.agg (cellsB (leafE (r1, q1))).toArray) ∧ Below W.heap.size W w') := fun W => refLeaf_any r1 q1 W x1
  obtain ⟨⟨p1, p2, p3, p4⟩, p5⟩ := fitsB_iff.1 x2
  obtain ⟨⟨p6, p7, p8, p9⟩, p10⟩ := fitsB_iff.1 x3
  have HG0 : Hid (∀ W, Below w.heap.size w W → Calls Try.prog 78 #[.agg (cellsB (leafE (r0, q0))).toArray, .agg #[.int .i64 a, .int .i64 b, .slice A m1 c]] W fun e w' => e = .returned (.agg (cellsB (climbS (leafE (r0, q0)) a.toNat b.toNat P).1).toArray) ∧ Below W.heap.size W w') := fun W hW => by
    have := refGives_any (leafE (r0, q0)) a.toNat b.toNat P A c W hm1 (leafE_length _) (by omega) (by omega) (by omega) (by rw [hm1]; exact p5) (h.below hW)
    rwa [Int.toNat_of_nonneg (by omega), Int.toNat_of_nonneg (by omega)] at this
  have HG1 : Hid (∀ W, Below w.heap.size w W → Calls Try.prog 78 #[.agg (cellsB (leafE (r1, q1))).toArray, .agg #[.int .i64 a2, .int .i64 b2, .slice A2 m2 c2]] W fun e w' => e = .returned (.agg (cellsB (climbS (leafE (r1, q1)) a2.toNat b2.toNat R).1).toArray) ∧ Below W.heap.size W w') := fun W hW => by
    have := refGives_any (leafE (r1, q1)) a2.toNat b2.toNat R A2 c2 W hm2 (leafE_length _) (by omega) (by omega) (by omega) (by rw [hm2]; exact p10) (h2.below hW)
    rwa [Int.toNat_of_nonneg (by omega), Int.toNat_of_nonneg (by omega)] at this
  have HRL0 := Lib.hid (climbS_length (leafE (r0, q0)) a.toNat b.toNat P)
  have HRL1 := Lib.hid (climbS_length (leafE (r1, q1)) a2.toNat b2.toNat R)
  have HV0 := Lib.hid hv0
  have HV1 := Lib.hid hv1
  clear hv0 hv1
  generalize (climbS (leafE (r0, q0)) a.toNat b.toNat P).1 = z0 at *
  generalize (climbS (leafE (r1, q1)) a2.toNat b2.toNat R).1 = z1 at *
  have HR := Lib.hid hr
  have HLL0 := Lib.hid (leafE_length (r0, q0))
  have HLL1 := Lib.hid (leafE_length (r1, q1))
  generalize leafE (r0, q0) = l0 at *
  generalize leafE (r1, q1) = l1 at *
  clear hr hm1 hm2 h h2 h3 h4 hml1 hml2 hv x0 x1 x2 x3 p1 p2 p3 p4 p5 p6 p7 p8 p9 p10 g1 g2 g3 n0 n1 n2 n3
  go_enter Try.func40, Try.ntmps40
  go_wp2_with (first
    | (go_at_call 92; (with_reducible refine (HE0.out _).mono ?_); rintro e w1 ⟨rfl, hb1⟩; clear k0 k1 k2 k3 k4 k5 k6 k7 k8 k9; have D1 := bel_on D0 hb1; clear hb1; have Q1 := BA.out _ D1; have k0 : w1.cell? ⟨w.heap.size + 1, 0, none⟩ = some (.int .i64 r0) := Q1.cell 0; have k1 : w1.cell? ⟨w.heap.size + 1, 1, none⟩ = some (.int .i64 q0) := Q1.cell 1; have k2 : w1.cell? ⟨w.heap.size + 1, 2, none⟩ = some (.int .i64 r1) := Q1.cell 2; have k3 : w1.cell? ⟨w.heap.size + 1, 3, none⟩ = some (.int .i64 q1) := Q1.cell 3; have k4 : w1.cell? ⟨w.heap.size + 1, 4, none⟩ = some (.int .i64 a) := Q1.cell 4; have k5 : w1.cell? ⟨w.heap.size + 1, 5, none⟩ = some (.int .i64 b) := Q1.cell 5; have k6 : w1.cell? ⟨w.heap.size + 1, 6, none⟩ = some (.slice A m1 c) := Q1.cell 6; have k7 : w1.cell? ⟨w.heap.size + 1, 7, none⟩ = some (.int .i64 a2) := Q1.cell 7; have k8 : w1.cell? ⟨w.heap.size + 1, 8, none⟩ = some (.int .i64 b2) := Q1.cell 8; have k9 : w1.cell? ⟨w.heap.size + 1, 9, none⟩ = some (.slice A2 m2 c2) := Q1.cell 9; clear Q1)
    | (go_at_call 92; (with_reducible refine (HE1.out _).mono ?_); rintro e w2 ⟨rfl, hb2⟩; clear k0 k1 k2 k3 k4 k5 k6 k7 k8 k9; have D2 := bel_on D1 hb2; clear hb2; have Q2 := BA.out _ D2; have k0 : w2.cell? ⟨w.heap.size + 1, 0, none⟩ = some (.int .i64 r0) := Q2.cell 0; have k1 : w2.cell? ⟨w.heap.size + 1, 1, none⟩ = some (.int .i64 q0) := Q2.cell 1; have k2 : w2.cell? ⟨w.heap.size + 1, 2, none⟩ = some (.int .i64 r1) := Q2.cell 2; have k3 : w2.cell? ⟨w.heap.size + 1, 3, none⟩ = some (.int .i64 q1) := Q2.cell 3; have k4 : w2.cell? ⟨w.heap.size + 1, 4, none⟩ = some (.int .i64 a) := Q2.cell 4; have k5 : w2.cell? ⟨w.heap.size + 1, 5, none⟩ = some (.int .i64 b) := Q2.cell 5; have k6 : w2.cell? ⟨w.heap.size + 1, 6, none⟩ = some (.slice A m1 c) := Q2.cell 6; have k7 : w2.cell? ⟨w.heap.size + 1, 7, none⟩ = some (.int .i64 a2) := Q2.cell 7; have k8 : w2.cell? ⟨w.heap.size + 1, 8, none⟩ = some (.int .i64 b2) := Q2.cell 8; have k9 : w2.cell? ⟨w.heap.size + 1, 9, none⟩ = some (.slice A2 m2 c2) := Q2.cell 9; clear Q2)
    | (go_at_call 77; (with_reducible refine (HF0.out _).mono ?_); rintro e w3 ⟨rfl, hb3⟩; clear k0 k1 k2 k3 k4 k5 k6 k7 k8 k9; have D3 := bel_on D2 hb3; clear hb3; have Q3 := BA.out _ D3; have k0 : w3.cell? ⟨w.heap.size + 1, 0, none⟩ = some (.int .i64 r0) := Q3.cell 0; have k1 : w3.cell? ⟨w.heap.size + 1, 1, none⟩ = some (.int .i64 q0) := Q3.cell 1; have k2 : w3.cell? ⟨w.heap.size + 1, 2, none⟩ = some (.int .i64 r1) := Q3.cell 2; have k3 : w3.cell? ⟨w.heap.size + 1, 3, none⟩ = some (.int .i64 q1) := Q3.cell 3; have k4 : w3.cell? ⟨w.heap.size + 1, 4, none⟩ = some (.int .i64 a) := Q3.cell 4; have k5 : w3.cell? ⟨w.heap.size + 1, 5, none⟩ = some (.int .i64 b) := Q3.cell 5; have k6 : w3.cell? ⟨w.heap.size + 1, 6, none⟩ = some (.slice A m1 c) := Q3.cell 6; have k7 : w3.cell? ⟨w.heap.size + 1, 7, none⟩ = some (.int .i64 a2) := Q3.cell 7; have k8 : w3.cell? ⟨w.heap.size + 1, 8, none⟩ = some (.int .i64 b2) := Q3.cell 8; have k9 : w3.cell? ⟨w.heap.size + 1, 9, none⟩ = some (.slice A2 m2 c2) := Q3.cell 9; clear Q3)
    | (go_at_call 77; (with_reducible refine (HF1.out _).mono ?_); rintro e w4 ⟨rfl, hb4⟩; clear k0 k1 k2 k3 k4 k5 k6 k7 k8 k9; have D4 := bel_on D3 hb4; clear hb4; have Q4 := BA.out _ D4; have k0 : w4.cell? ⟨w.heap.size + 1, 0, none⟩ = some (.int .i64 r0) := Q4.cell 0; have k1 : w4.cell? ⟨w.heap.size + 1, 1, none⟩ = some (.int .i64 q0) := Q4.cell 1; have k2 : w4.cell? ⟨w.heap.size + 1, 2, none⟩ = some (.int .i64 r1) := Q4.cell 2; have k3 : w4.cell? ⟨w.heap.size + 1, 3, none⟩ = some (.int .i64 q1) := Q4.cell 3; have k4 : w4.cell? ⟨w.heap.size + 1, 4, none⟩ = some (.int .i64 a) := Q4.cell 4; have k5 : w4.cell? ⟨w.heap.size + 1, 5, none⟩ = some (.int .i64 b) := Q4.cell 5; have k6 : w4.cell? ⟨w.heap.size + 1, 6, none⟩ = some (.slice A m1 c) := Q4.cell 6; have k7 : w4.cell? ⟨w.heap.size + 1, 7, none⟩ = some (.int .i64 a2) := Q4.cell 7; have k8 : w4.cell? ⟨w.heap.size + 1, 8, none⟩ = some (.int .i64 b2) := Q4.cell 8; have k9 : w4.cell? ⟨w.heap.size + 1, 9, none⟩ = some (.slice A2 m2 c2) := Q4.cell 9; clear Q4))
  have RS : Hid (∀ W, Below ((w.alloc (.cells (cellsB root).toArray 23)).alloc (.cells #[.int .i64 r0, .int .i64 q0, .int .i64 r1, .int .i64 q1, .int .i64 a, .int .i64 b, .slice A m1 c, .int .i64 a2, .int .i64 b2, .slice A2 m2 c2] 81)).heap.size ((w.alloc (.cells (cellsB root).toArray 23)).alloc (.cells #[.int .i64 r0, .int .i64 q0, .int .i64 r1, .int .i64 q1, .int .i64 a, .int .i64 b, .slice A m1 c, .int .i64 a2, .int .i64 b2, .slice A2 m2 c2] 81)) W → W.rangeAt w.heap.size 0 (cellsB root) ∧ W.rangeAt (w.heap.size + 1) 0 [.int .i64 r0, .int .i64 q0] ∧ W.rangeAt (w.heap.size + 1) 2 [.int .i64 r1, .int .i64 q1] ∧ W.rangeAt (w.heap.size + 1) 4 [.int .i64 a, .int .i64 b, .slice A m1 c] ∧ W.rangeAt (w.heap.size + 1) 7 [.int .i64 a2, .int .i64 b2, .slice A2 m2 c2]) := fun W hW => by
    have hB := BA.out W hW
    refine ⟨(BR.out W hW).range, ?_, ?_, ?_, ?_⟩
    · exact rangeOf hB 0 _ rfl
    · exact rangeOf hB 2 _ rfl
    · exact rangeOf hB 4 _ rfl
    · exact rangeOf hB 7 _ rfl
  have D4d := D4.drew
  refine wp_region_noPanic ?_
  refine wp_region_held_drew (S := fun w' => w'.rangeAt w.heap.size 0 (cellsB root) ∧ w'.rangeAt (w.heap.size + 1) 0 [.int .i64 r0, .int .i64 q0] ∧ w'.rangeAt (w.heap.size + 1) 2 [.int .i64 r1, .int .i64 q1] ∧ w'.rangeAt (w.heap.size + 1) 4 [.int .i64 a, .int .i64 b, .slice A m1 c] ∧ w'.rangeAt (w.heap.size + 1) 7 [.int .i64 a2, .int .i64 b2, .slice A2 m2 c2]) (by kernel_rfl) (RS.out _ D4d) (fun hS => ?_)
  refine hd_take 0 (_) rfl rfl (by kernel_rfl) (by kernel_rfl) (by kernel_rfl) (fun _ _ _ h => h) (fun w _ => by go_simp <;> rfl) hS ?_
  simp only [List.getElem_toArray, List.getElem_cons_succ, List.getElem_cons_zero, Act.put, List.setIfInBounds_toArray, List.set_cons_zero, List.set_cons_succ]
  refine hd_take 1 (_) rfl rfl (by kernel_rfl) (by kernel_rfl) (by kernel_rfl) (fun _ _ _ h => h) (fun w _ => by go_simp <;> rfl) hS ?_
  simp only [List.getElem_toArray, List.getElem_cons_succ, List.getElem_cons_zero, Act.put, List.setIfInBounds_toArray, List.set_cons_zero, List.set_cons_succ]
  refine hg_take 2 (_) rfl rfl (by kernel_rfl) (by kernel_rfl) (by kernel_rfl) (fun _ _ _ h => h) (fun w _ => by go_simp <;> rfl) hS ?_
  refine hg_take 5 (_) rfl rfl (by kernel_rfl) (by kernel_rfl) (by kernel_rfl) (fun _ _ _ h => h) (fun w _ => by go_simp <;> rfl) hS ?_
  refine hg_load 8 w.heap.size 0 (cellsB root) _ _ rfl rfl rfl (by kernel_rfl) (by kernel_rfl) (by kernel_rfl) (fun _ _ _ h => h) rfl (fun w hw => hw.1) under_key rfl (key_info HR.out) hS ?_
  simp only [List.getElem_toArray, List.getElem_cons_succ, List.getElem_cons_zero, Act.put, List.setIfInBounds_toArray, List.set_cons_zero, List.set_cons_succ]
  refine hg_load 3 (w.heap.size + 1) 0 ([.int .i64 r0, .int .i64 q0]) _ _ rfl rfl rfl (by kernel_rfl) (by kernel_rfl) (by kernel_rfl) (fun _ _ _ h => h) rfl (fun w hw => hw.2.1) Try.underlying79 rfl (by kernel_rfl) hS ?_
  refine hg_load 6 (w.heap.size + 1) 4 ([.int .i64 a, .int .i64 b, .slice A m1 c]) _ _ rfl rfl rfl (by kernel_rfl) (by kernel_rfl) (by kernel_rfl) (fun _ _ _ h => h) rfl (fun w hw => hw.2.2.2.1) Try.underlying52 rfl (by kernel_rfl) hS ?_
  simp only [List.getElem_toArray, List.getElem_cons_succ, List.getElem_cons_zero, Act.put, List.setIfInBounds_toArray, List.set_cons_zero, List.set_cons_succ]
  refine hg_calls 4 93 #[.agg #[.int .i64 r0, .int .i64 q0]] rfl rfl (by kernel_rfl) (by go_simp <;> rfl) ?_
  refine (HL0.out _).mono ?_
  rintro e w5 ⟨rfl, hb5⟩
  have D5 := bel_on D4d hb5
  have hS5 := RS.out _ D5
  refine ⟨_, rfl, hS5, ?_⟩
  simp only [List.getElem_toArray, List.getElem_cons_succ, List.getElem_cons_zero, Act.put, List.setIfInBounds_toArray, List.set_cons_zero, List.set_cons_succ]
  refine hg_calls 7 78 #[.agg (cellsB l0).toArray, .agg #[.int .i64 a, .int .i64 b, .slice A m1 c]] rfl rfl (by kernel_rfl) (by go_simp <;> rfl) ?_
  refine (HG0.out _ (bel_on b0 D5)).mono ?_
  rintro e w6 ⟨rfl, hb6⟩
  have D6 := bel_on D5 hb6
  have hS6 := RS.out _ D6
  refine ⟨_, rfl, hS6, ?_⟩
  simp only [List.getElem_toArray, List.getElem_cons_succ, List.getElem_cons_zero, Act.put, List.setIfInBounds_toArray, List.set_cons_zero, List.set_cons_succ]
  refine hg_take 9 (.bool v0) rfl rfl (by kernel_rfl) (by kernel_rfl) (by kernel_rfl) (fun _ _ _ h => h) (fun w _ => by have hx := equalIn_keys w z0 root HRL0 HR; rw [HV0.out] at hx; simp [go_sem, hx]) hS6 ?_
  simp only [List.getElem_toArray, List.getElem_cons_succ, List.getElem_cons_zero, Act.put, List.setIfInBounds_toArray, List.set_cons_zero, List.set_cons_succ]
  refine hd_take 10 (_) rfl rfl (by kernel_rfl) (by kernel_rfl) (by kernel_rfl) (fun _ _ _ h => h) (fun w _ => by go_simp <;> rfl) hS6 ?_
  simp only [List.getElem_toArray, List.getElem_cons_succ, List.getElem_cons_zero, Act.put, List.setIfInBounds_toArray, List.set_cons_zero, List.set_cons_succ]
  refine hd_take 11 (_) rfl rfl (by kernel_rfl) (by kernel_rfl) (by kernel_rfl) (fun _ _ _ h => h) (fun w _ => by go_simp <;> rfl) hS6 ?_
  simp only [List.getElem_toArray, List.getElem_cons_succ, List.getElem_cons_zero, Act.put, List.setIfInBounds_toArray, List.set_cons_zero, List.set_cons_succ]
  cases v0 with
  | false =>
    refine hg_skip 12 rfl rfl (by kernel_rfl) (by kernel_rfl) (by kernel_rfl) (fun _ _ _ h => h) hS6 ?_
    refine hg_skip 13 rfl rfl (by kernel_rfl) (by kernel_rfl) (by kernel_rfl) (fun _ _ _ h => h) hS6 ?_
    refine hg_skip 14 rfl rfl (by kernel_rfl) (by kernel_rfl) (by kernel_rfl) (fun _ _ _ h => h) hS6 ?_
    refine hg_skip 15 rfl rfl (by kernel_rfl) (by kernel_rfl) (by kernel_rfl) (fun _ _ _ h => h) hS6 ?_
    refine hg_skip 16 rfl rfl (by kernel_rfl) (by kernel_rfl) (by kernel_rfl) (fun _ _ _ h => h) hS6 ?_
    refine hg_skip 17 rfl rfl (by kernel_rfl) (by kernel_rfl) (by kernel_rfl) (fun _ _ _ h => h) hS6 ?_
    refine hg_skip 18 rfl rfl (by kernel_rfl) (by kernel_rfl) (by kernel_rfl) (fun _ _ _ h => h) hS6 ?_
    refine hg_skip 19 rfl rfl (by kernel_rfl) (by kernel_rfl) (by kernel_rfl) (fun _ _ _ h => h) hS6 ?_
    simp only [List.getElem_toArray, List.getElem_cons_succ, List.getElem_cons_zero, Act.put, List.setIfInBounds_toArray, List.set_cons_zero, List.set_cons_succ]
    refine hd_take 20 (_) rfl rfl (by kernel_rfl) (by kernel_rfl) (by kernel_rfl) (fun _ _ _ h => h) (fun w _ => by go_simp <;> rfl) hS6 ?_
    simp only [List.getElem_toArray, List.getElem_cons_succ, List.getElem_cons_zero, Act.put, List.setIfInBounds_toArray, List.set_cons_zero, List.set_cons_succ]
    refine hd_take 21 (_) rfl rfl (by kernel_rfl) (by kernel_rfl) (by kernel_rfl) (fun _ _ _ h => h) (fun w _ => by go_simp <;> rfl) hS6 ?_
    simp only [List.getElem_toArray, List.getElem_cons_succ, List.getElem_cons_zero, Act.put, List.setIfInBounds_toArray, List.set_cons_zero, List.set_cons_succ]
    refine hd_take 22 (_) rfl rfl (by kernel_rfl) (by kernel_rfl) (by kernel_rfl) (fun _ _ _ h => h) (fun w _ => by go_simp <;> rfl) hS6 ?_
    simp only [List.getElem_toArray, List.getElem_cons_succ, List.getElem_cons_zero, Act.put, List.setIfInBounds_toArray, List.set_cons_zero, List.set_cons_succ]
    refine wpAnyH_done (by kernel_rfl) (NoPanic.normal ?_) _
    clear hS hS5 hS6
    go_wp2_with fail
    go_ret2
    rw [HS.out]
    exact ⟨rfl, bel_on b0 D6⟩
  | true =>
    refine hg_take 12 (_) rfl rfl (by kernel_rfl) (by kernel_rfl) (by kernel_rfl) (fun _ _ _ h => h) (fun w _ => by go_simp <;> rfl) hS6 ?_
    refine hg_take 15 (_) rfl rfl (by kernel_rfl) (by kernel_rfl) (by kernel_rfl) (fun _ _ _ h => h) (fun w _ => by go_simp <;> rfl) hS6 ?_
    refine hg_load 18 w.heap.size 0 (cellsB root) _ _ rfl rfl rfl (by kernel_rfl) (by kernel_rfl) (by kernel_rfl) (fun _ _ _ h => h) rfl (fun w hw => hw.1) under_key rfl (key_info HR.out) hS6 ?_
    simp only [List.getElem_toArray, List.getElem_cons_succ, List.getElem_cons_zero, Act.put, List.setIfInBounds_toArray, List.set_cons_zero, List.set_cons_succ]
    refine hg_load 13 (w.heap.size + 1) 2 ([.int .i64 r1, .int .i64 q1]) _ _ rfl rfl rfl (by kernel_rfl) (by kernel_rfl) (by kernel_rfl) (fun _ _ _ h => h) rfl (fun w hw => hw.2.2.1) Try.underlying79 rfl (by kernel_rfl) hS6 ?_
    refine hg_load 16 (w.heap.size + 1) 7 ([.int .i64 a2, .int .i64 b2, .slice A2 m2 c2]) _ _ rfl rfl rfl (by kernel_rfl) (by kernel_rfl) (by kernel_rfl) (fun _ _ _ h => h) rfl (fun w hw => hw.2.2.2.2) Try.underlying52 rfl (by kernel_rfl) hS6 ?_
    simp only [List.getElem_toArray, List.getElem_cons_succ, List.getElem_cons_zero, Act.put, List.setIfInBounds_toArray, List.set_cons_zero, List.set_cons_succ]
    refine hg_calls 14 93 #[.agg #[.int .i64 r1, .int .i64 q1]] rfl rfl (by kernel_rfl) (by go_simp <;> rfl) ?_
    refine (HL1.out _).mono ?_
    rintro e w7 ⟨rfl, hb7⟩
    have D7 := bel_on D6 hb7
    have hS7 := RS.out _ D7
    refine ⟨_, rfl, hS7, ?_⟩
    simp only [List.getElem_toArray, List.getElem_cons_succ, List.getElem_cons_zero, Act.put, List.setIfInBounds_toArray, List.set_cons_zero, List.set_cons_succ]
    refine hg_calls 17 78 #[.agg (cellsB l1).toArray, .agg #[.int .i64 a2, .int .i64 b2, .slice A2 m2 c2]] rfl rfl (by kernel_rfl) (by go_simp <;> rfl) ?_
    refine (HG1.out _ (bel_on b0 D7)).mono ?_
    rintro e w8 ⟨rfl, hb8⟩
    have D8 := bel_on D7 hb8
    have hS8 := RS.out _ D8
    refine ⟨_, rfl, hS8, ?_⟩
    simp only [List.getElem_toArray, List.getElem_cons_succ, List.getElem_cons_zero, Act.put, List.setIfInBounds_toArray, List.set_cons_zero, List.set_cons_succ]
    refine hg_take 19 (.bool v1) rfl rfl (by kernel_rfl) (by kernel_rfl) (by kernel_rfl) (fun _ _ _ h => h) (fun w _ => by have hx := equalIn_keys w z1 root HRL1 HR; rw [HV1.out] at hx; simp [go_sem, hx]) hS8 ?_
    simp only [List.getElem_toArray, List.getElem_cons_succ, List.getElem_cons_zero, Act.put, List.setIfInBounds_toArray, List.set_cons_zero, List.set_cons_succ]
    refine hd_take 20 (_) rfl rfl (by kernel_rfl) (by kernel_rfl) (by kernel_rfl) (fun _ _ _ h => h) (fun w _ => by go_simp <;> rfl) hS8 ?_
    simp only [List.getElem_toArray, List.getElem_cons_succ, List.getElem_cons_zero, Act.put, List.setIfInBounds_toArray, List.set_cons_zero, List.set_cons_succ]
    refine hd_take 21 (_) rfl rfl (by kernel_rfl) (by kernel_rfl) (by kernel_rfl) (fun _ _ _ h => h) (fun w _ => by go_simp <;> rfl) hS8 ?_
    simp only [List.getElem_toArray, List.getElem_cons_succ, List.getElem_cons_zero, Act.put, List.setIfInBounds_toArray, List.set_cons_zero, List.set_cons_succ]
    refine hd_take 22 (_) rfl rfl (by kernel_rfl) (by kernel_rfl) (by kernel_rfl) (fun _ _ _ h => h) (fun w _ => by go_simp <;> rfl) hS8 ?_
    simp only [List.getElem_toArray, List.getElem_cons_succ, List.getElem_cons_zero, Act.put, List.setIfInBounds_toArray, List.set_cons_zero, List.set_cons_succ]
    refine wpAnyH_done (by kernel_rfl) (NoPanic.normal ?_) _
    clear hS hS5 hS6 hS7 hS8
    go_wp2_with fail
    go_ret2
    rw [HS.out]
    exact ⟨rfl, bel_on b0 D8⟩

theorem refVerifyOff_any (root : List UInt8) (u r0 q0 r1 q1 a b a2 b2 : Int) (P R : List (List UInt8)) (A A2 : Option Addr) (c c2 : Nat) (w : World) {m1 m2 : Nat} (hr : root.length = 16) (hm1 : P.length = m1) (hm2 : R.length = m2) (h : KR w A c P) (h2 : KR w A2 c2 R) :
    Calls Try.prog 40 #[.agg (cellsB root).toArray, .int .i64 u, .agg #[.int .i64 r0, .int .i64 q0, .int .i64 r1, .int .i64 q1, .int .i64 a, .int .i64 b, .slice A m1 c, .int .i64 a2, .int .i64 b2, .slice A2 m2 c2]] w fun e w' => e = .returned (.tuple #[.bool (voS root u (r0, q0) (r1, q1) a b P a2 b2 R).1, .int .i64 (voS root u (r0, q0) (r1, q1) a b P a2 b2 R).2]) ∧ Below w.heap.size w w' := by
  by_cases hu : u < 0 ∨ 64 ≤ u
  · exact refVoff_out root u r0 q0 r1 q1 a b a2 b2 P R A A2 c c2 w hr hm1 hm2 h h2 hu
  · cases hv : okV (r0, q0) (r1, q1) a b m1 a2 b2 m2 with
    | false => exact refVoff_unfit root u r0 q0 r1 q1 a b a2 b2 P R A A2 c c2 w hr hm1 hm2 h h2 (by omega) (by omega) hv
    | true =>
      cases hn : nearB (r0, q0) (r1, q1) u a b a2 b2 with
      | false => exact refVoff_far root u r0 q0 r1 q1 a b a2 b2 P R A A2 c c2 w hr hm1 hm2 h h2 (by omega) (by omega) hv hn
      | true =>
        obtain ⟨n0, n1, n2, n3⟩ := nearB_iff.1 hn
        exact refVoff_near root u r0 q0 r1 q1 a b a2 b2 P R A A2 c c2 w hr hm1 hm2 h h2 (by omega) (by omega) hv n0 n1 n2 n3
end Go.Proofs.Ytinpiodfpnbllaa

/- Lists of entries that the call owns: literals, append. -/
namespace Go.Proofs.Ytinpiodfpnbllaa
open Go.RowKit
set_option linter.unusedVariables false

theorem OE.le_ {B B' : Nat} {w : World} {A : Option Addr} {c : Nat} {es : List Ent} (h : OE B w A c es) (hB : B' ≤ B) : OE B' w A c es :=
  ⟨h.1, h.2.elim Or.inl (fun ⟨g, cap, cur, hv, hg, r⟩ => Or.inr ⟨g, cap, cur, hv, Nat.le_trans hB hg, r⟩)⟩
theorem OE.lit (B : Nat) (w : World) (l : List Ent) (hB : B ≤ w.heap.size) (hl : l.length ≤ 1000000) {n : Nat} (hn : l.length = n) : OE B (w.alloc (.cells (cellsE l).toArray 79)) (some ⟨w.heap.size, 0, none⟩) n l := by
  subst hn
  exact World.ownsRow_lit (e := 79) (size := 2) w (cellsE l).toArray l.length hB (by simp only [maxLen]; omega) (by rw [List.size_toArray, cellsE_length])
theorem ER.src {w : World} {A : Option Addr} {c : Nat} {l : List Ent} (h : ER w A c l) {n : Nat} (hn : l.length = n) : Src w 2 A n (cellsE l) := by subst hn; exact Rd.src h
theorem src_litE {w : World} (l : List Ent) {n : Nat} (hn : l.length = n) : Src (w.alloc (.cells (cellsE l).toArray 79)) 2 (some ⟨w.heap.size, 0, none⟩) n (cellsE l) := by
  subst hn
  refine ⟨cellsE_length l, .inr ⟨_, rfl, fun j u hu => ?_⟩⟩
  rw [Addr.add_lit, Nat.zero_add]
  simpa using hu

theorem wpList_append_ents (w : World) {ops : Array Oper} {rest : List Oper} {o : Oper} {a : Act} {Q : Exit → Act → World → Prop} (hgd : o.guard = none) (s x : Operand)
    (ho : o.op = .call { callee := .builtin .append, args := #[s, x], argTypes := #[77, 77] })
    (B : Nat) (A : Option Addr) (n c : Nat) (l : List Ent) (hn : l.length = n) (hs : a.eval s = .slice A n c) (hown : OE B w A c l)
    (X : Option Addr) (m d : Nat) (news : List Ent) (hm : news.length = m) (hx : a.eval x = .slice X m d) (hsrc : Src w 2 X m (cellsE news))
    (hlen : n + m ≤ 1000000) (hB : B ≤ w.heap.size)
    (h : ∀ A' c' w', OE B w' A' c' (l ++ news) → Below B w w' → w.grownBy w' (Value.ownBlock (.slice A n c)) → wpList Try.prog ops Q rest (a.put o.dst (.slice A' (n + m) c')) w') : wpList Try.prog ops Q (o :: rest) a w := by
  obtain ⟨i0, hi, hz0, hz1, hz2⟩ := info_parts ent_info3
  subst hn hm
  refine wpList_append_src w hgd s x 77 ho B 79 i0 (.agg (cellsX (0, 0)).toArray) 2 16 Try.underlying77 hi hz0 hz1 hz2 rfl (by omega) A l.length c (cellsE l) hs hown X news.length d (cellsE news) hx hsrc (cells_oneE _)
    (by simp only [maxLen]; omega) (by omega) hB ?_
  intro A' c' w' h1 h2 h3
  refine h A' c' w' ?_ (grown_below (Below.refl _ _) hown h2 hB (Nat.le_refl _)) h2
  unfold OE
  rw [cellsE_append, List.length_append]
  exact h1
theorem wpList_append_keysE (w : World) {ops : Array Oper} {rest : List Oper} {o : Oper} {a : Act} {Q : Exit → Act → World → Prop} (hgd : o.guard = none) (s x : Operand)
    (ho : o.op = .call { callee := .builtin .append, args := #[s, x], argTypes := #[40, 40] })
    (B : Nat) (A : Option Addr) (n c : Nat) (ks : List (List UInt8)) (hn : ks.length = n) (hs : a.eval s = .slice A n c) (hown : OK16 B w A c ks)
    (X : Option Addr) (m d : Nat) (news : List (List UInt8)) (hm : news.length = m) (hx : a.eval x = .slice X m d) (hsrc : Src w 16 X m (cellsK news))
    (hlen : (n + m) * 16 ≤ 140737488355328) (hB : B ≤ w.heap.size)
    (h : ∀ A' c' w', OK16 B w' A' c' (ks ++ news) → Below B w w' → w.grownBy w' (Value.ownBlock (.slice A n c)) → wpList Try.prog ops Q rest (a.put o.dst (.slice A' (n + m) c')) w') : wpList Try.prog ops Q (o :: rest) a w := by
  obtain ⟨i0, hi, hz0, hz1, hz2⟩ := info_parts key_info3
  subst hn hm
  refine wpList_append_src w hgd s x 40 ho B 23 i0 (.agg (cellsB zeroK).toArray) 16 16 Try.underlying40 hi hz0 hz1 hz2 rfl (by omega) A ks.length c (cellsK ks) hs hown X news.length d (cellsK news) hx hsrc (cells_oneK news)
    (by simp only [maxLen]; omega) hlen hB ?_
  intro A' c' w' h1 h2 h3
  refine h A' c' w' ?_ (grown_below (Below.refl _ _) hown h2 hB (Nat.le_refl _)) h2
  unfold OK16
  rw [cellsK_append, List.length_append]
  exact h1

theorem endedE_isE {es : List Ent} (h : ∀ x ∈ es, isE x = true) : ∀ x ∈ endedE es, isE x = true := fun x hx => by
  rcases List.mem_cons.1 hx with rfl | hx
  · rfl
  · rcases List.mem_append.1 hx with hx | hx
    · exact h x hx
    · rw [List.mem_singleton.1 hx]; rfl
theorem leavesE_step {es : List Ent} {i : Nat} (h : i < (endedE es).length) : (leavesE es).take (i + 1) = (leavesE es).take i ++ [leafE (endedE es)[i]] := by
  have hl : i < (leavesE es).length := by unfold leavesE; simpa using h
  rw [List.take_succ_eq_append_getElem hl]
  congr 2
  simp [leavesE]
end Go.Proofs.Ytinpiodfpnbllaa

/- slices.Concat at entries. -/
namespace Go.Proofs.Ytinpiodfpnbllaa
open Go.RowKit
set_option linter.unusedVariables false

theorem wpList_growE (w : World) {ops : Array Oper} {rest : List Oper} {o : Oper} {a : Act} {Q : Exit → Act → World → Prop} (hgd : o.guard = none) (s x : Operand)
    (ho : o.op = .call { callee := .builtin .append, args := #[s, x], argTypes := #[77, 3] }) (k : Nat) (hs : a.eval s = .slice none 0 0) (hx : a.eval x = .int .i64 (k : Int)) (h0 : 0 < k) (hk : k ≤ 1000000)
    (h : ∀ c w', OE w.heap.size w' (some ⟨w.heap.size, 0, none⟩) c [] → k ≤ c → c ≤ 9223372036854775807 → Below w.heap.size w w' → wpList Try.prog ops Q rest (a.put o.dst (.slice (some ⟨w.heap.size, 0, none⟩) k c)) w') : wpList Try.prog ops Q (o :: rest) a w := by
  obtain ⟨i0, hi, hz0, hz1, hz2⟩ := info_parts ent_info3
  have hfit : Builtin.nextslicecap (0 + k) 0 * i0.bytes ≤ 281474976710656 := by
    rw [hz2]
    unfold Builtin.nextslicecap
    simp only [Nat.zero_add]
    split <;> (try simp) <;> omega
  have hrun := Lib.run_append_grow_zeros (P := Try.prog) w 77 3 o.type 79 i0 (.agg (cellsX (0, 0)).toArray) .i64 .i64 Try.underlying77 Try.underlying3 hi hz0 none 0 0 [] (by simp [Builtin.firstCells]) k h0 (by rw [hz1]; omega) (by omega) (by omega) (by rw [hz2]; omega) hfit
  refine wpList_plain hgd fun K hK => ?_
  rw [Nat.zero_add] at hrun
  have hge := grownCap_ge w k 0 79
  have hle := grownCap_le_maxLen w k 0 79 (by simp only [maxLen]; omega)
  have ho1 : OE w.heap.size (w.drew.alloc (.cells (([] : List Value).toArray ++ Builtin.zeroCells (Value.agg (cellsX (0, 0)).toArray).cells k ++ Builtin.zeroCells (Value.agg (cellsX (0, 0)).toArray).cells (grownCap w k 0 79 - k)) 79)) (some ⟨w.heap.size, 0, none⟩) (grownCap w k 0 79) [] :=
    ⟨rfl, .inr ⟨w.heap.size, _, _, rfl, Nat.le_refl _, heap_alloc_new w.drew _, Nat.zero_le _, hle, by simp [size_zeroCells, Value.cells, cellsX]; omega, by simp [cellsE]⟩⟩
  have hb1 : Below w.heap.size w (w.drew.alloc (.cells (([] : List Value).toArray ++ Builtin.zeroCells (Value.agg (cellsX (0, 0)).toArray).cells k ++ Builtin.zeroCells (Value.agg (cellsX (0, 0)).toArray).cells (grownCap w k 0 79 - k)) 79)) := (Below.refl _ w).drew.alloc (Nat.le_refl _) _
  unfold Oper.wp
  simp only [execOp, ho, resolve, invoke, builtin, Sem.run_bind, Sem.run_pure, Result.andThen_ok, List.map_toArray, List.map_cons, List.map_nil, hs, hx, hrun]
  exact hK _ _ (h _ _ ho1 hge (by simpa [maxLen] using hle) hb1)

set_option maxHeartbeats 1000000 in
theorem GrowE_any (n : Nat) (w : World) (h0 : 0 < n) (hn : n ≤ 1000000) : Calls Try.prog 139 #[.slice none 0 0, .int .i64 (n : Int)] w fun e w' => (∃ A c, e = .returned (.slice A 0 c) ∧ OE w.heap.size w' A c []) ∧ Below w.heap.size w w' := by
  have hni : (n : Int) ≤ 1000000 := by omega
  have h0i : (0 : Int) < (n : Int) := by omega
  go_enter Try.func139, Try.ntmps139
  go_wp2_with (at_builtin; refine wpList_growE _ rfl (.tmp 20) (.tmp 21) rfl n rfl rfl h0 hn ?_; intro c1 w1 ho1 hc1 hc2 hb1; have HO1 := Lib.hid ho1; clear ho1)
  go_ret
  exact ⟨⟨_, c1, rfl, HO1.out⟩, hb1⟩

structure ERow where
  A : Option Addr
  c : Nat
  l : List Ent
def ERow.v (r : ERow) : Value := .slice r.A r.l.length r.c
/-- A slice of lists of entries. -/
def RE (w : World) (A : Option Addr) (c : Nat) (rs : List ERow) : Prop := Rd w 1 A c rs.length (rs.map ERow.v) ∧ ∀ r ∈ rs, ER w r.A r.c r.l

/-- The first i rows, one behind the other. -/
def catE (rs : List ERow) (i : Nat) : List Ent := (rs.take i).flatMap ERow.l
theorem catE_succ {rs : List ERow} {i : Nat} {r : ERow} (h : rs[i]? = some r) : catE rs (i + 1) = catE rs i ++ r.l := by
  obtain ⟨hi, he⟩ := List.getElem?_eq_some_iff.1 h
  rw [catE, List.take_succ_eq_append_getElem hi, List.flatMap_append, he]
  simp [catE]
theorem catE_le (rs : List ERow) {i n : Nat} (h : i ≤ n) : (catE rs i).length ≤ (catE rs n).length := by
  have e : (rs.take n).take i = rs.take i := by rw [List.take_take, Nat.min_eq_left h]
  have this := (List.take_append_drop i (rs.take n)).symm
  rw [e] at this
  rw [catE, catE, this, List.flatMap_append, List.length_append]
  omega
theorem RE.cellAt {w : World} {A : Option Addr} {c : Nat} {rs : List ERow} (h : RE w A c rs) {i : Nat} (hi : i < rs.length) :
    ∃ b off r, A = some ⟨b, off, none⟩ ∧ b < w.heap.size ∧ rs[i]? = some r ∧ w.cell? ⟨b, off + i, none⟩ = some (.slice r.A r.l.length r.c) ∧ ER w r.A r.c r.l := by
  obtain ⟨b, off, e, hb, v, hv, hc⟩ := Rd.at1 h.1 hi
  have hr : rs[i]? = some rs[i] := List.getElem?_eq_getElem hi
  rw [List.getElem?_map, hr] at hv
  injection hv with hv
  subst hv
  exact ⟨b, off, rs[i], e, hb, hr, hc, h.2 _ (List.getElem_mem hi)⟩
theorem RE.on {w w' : World} {A : Option Addr} {c : Nat} {rs : List ERow} (h : RE w A c rs) (hb : Below w.heap.size w w') : RE w' A c rs := ⟨h.1.below hb, fun r hr => (h.2 r hr).below hb⟩

set_option maxHeartbeats 1000000 in
set_option maxRecDepth 100000 in
theorem ConcatE_any (A : Option Addr) (c : Nat) (rs : List ERow) (w : World) {n N : Nat} (hn : rs.length = n) (h : RE w A c rs) (hN : (catE rs n).length = N) (h0 : 0 < N) (hb : N ≤ 1000000) :
    Calls Try.prog 94 #[.slice A n c] w fun e w' => (∃ A' c', e = .returned (.slice A' N c') ∧ OE w.heap.size w' A' c' (catE rs n)) ∧ Below w.heap.size w w' := by
  have HN := Lib.hid hn
  have HNN := Lib.hid hN
  have H := Lib.hid h
  have hni : (N : Int) ≤ 1000000 := by omega
  have hnl : (n : Int) ≤ 140737488351232 := by have := h.1.len; omega
  have HGR : Hid (∀ W, Calls Try.prog 139 #[.slice none 0 0, .int .i64 (N : Int)] W fun e w' => (∃ A c, e = .returned (.slice A 0 c) ∧ OE W.heap.size w' A c []) ∧ Below W.heap.size W w') := fun W => GrowE_any N W h0 hb
  clear hn hN h
  go_enter Try.func94, Try.ntmps94
  go_wp2_with fail
  go_loop [3, 11] (fun vs vi => ∃ (i m : Nat), i ≤ n ∧ vi = .int .i64 (i : Int) ∧ vs = .int .i64 (m : Int) ∧ Hid ((catE rs i).length = m)) (fun _ vi => n - (intOf vi).toNat)
  case atStart => exact ⟨0, 0, by omega, rfl, rfl, rfl⟩
  case round =>
    obtain ⟨i, m, hi, rfl, rfl, HM⟩ := hrel
    have hmN : m ≤ N := by have h1 := catE_le rs hi; rw [HM.out, HNN.out] at h1; exact h1
    have hmi : (m : Int) ≤ 1000000 := by omega
    by_cases hlt : i < n
    · have hii : (i : Int) < n := by omega
      obtain ⟨b, off, r, rfl, hbb, hr, hc, hR⟩ := H.out.cellAt (i := i) (by have := HN.out; omega)
      have HCS := Lib.hid (catE_succ hr)
      have hm2 : m + r.l.length ≤ N := by have h1 := catE_le rs (show i + 1 ≤ n from hlt); rw [HCS.out, List.length_append, HM.out, HNN.out] at h1; exact h1
      obtain ⟨RA, rc, rl⟩ := r
      dsimp only at hc hm2 HCS
      obtain ⟨rn, hrn⟩ : ∃ rn, rl.length = rn := ⟨_, rfl⟩
      rw [hrn] at hc hm2
      have HRN := Lib.hid hrn
      have hm2i : (m : Int) + (rn : Int) ≤ 1000000 := by omega
      clear hr hR hrn
      go_wp2_with fail
      go_round
      case rel => exact ⟨i + 1, m + rn, by omega, by go_num, by go_num, by unfold Hid; rw [HCS.out, List.length_append, HM.out, HRN.out]⟩
      case measure => simp [intOf]; omega
    · obtain rfl : i = n := by omega
      obtain rfl : m = N := by rw [← HM.out, HNN.out]
      have hii : (i : Int) ≤ i := Int.le_refl _
      go_wp2_with (go_at_call 139; refine (HGR.out _).mono ?_; rintro e w1 ⟨⟨A1, c1, rfl, ho1⟩, hb1⟩; have HO1 := Lib.hid ho1; clear ho1)
      go_loopw [6, 27] (fun vo vi wr => ∃ (j q : Nat) (A' : Option Addr) (c' : Nat), j ≤ i ∧ vi = .int .i64 (j : Int) ∧ vo = .slice A' q c' ∧ Hid ((catE rs j).length = q) ∧ Hid (OE w.heap.size wr A' c' (catE rs j)) ∧ Below w.heap.size w wr) (fun _ vi _ => i - (intOf vi).toNat)
      case atStart => exact ⟨0, 0, A1, c1, by omega, rfl, rfl, rfl, HO1.out, hb1⟩
      case round =>
        obtain ⟨j, q, A', c', hj, rfl, rfl, HQ, HO, hbel⟩ := hrel
        by_cases hlt2 : j < i
        · have hji : (j : Int) < i := by omega
          obtain ⟨b, off, r, rfl, hbb, hr, hc, hR⟩ := (H.out.on hbel).cellAt (i := j) (by have := HN.out; omega)
          have HCS := Lib.hid (catE_succ hr)
          have hm2 : q + r.l.length ≤ m := by have h1 := catE_le rs (show j + 1 ≤ i from hlt2); rw [HCS.out, List.length_append, HQ.out, HNN.out] at h1; exact h1
          obtain ⟨RA, rc, rl⟩ := r
          dsimp only at hc hm2 HCS hR
          obtain ⟨rn, hrn⟩ : ∃ rn, rl.length = rn := ⟨_, rfl⟩
          rw [hrn] at hc hm2
          have HRN := Lib.hid hrn
          have HR := Lib.hid hR
          clear hr hR hrn
          go_wp2_with (at_builtin; refine wpList_append_ents _ rfl (.tmp 31) (.tmp 32) rfl w.heap.size A' q c' (catE rs j) HQ.out rfl HO.out RA rn rc rl HRN.out rfl (HR.out.src HRN.out) (by omega) hbel.size ?_; intro A5 c5 w5 hon5 hbl5 hg5; have HON5 := Lib.hid hon5; have b5 := hbel.trans hbl5; clear hon5 hg5 hbl5)
          go_roundw
          case rel => exact ⟨j + 1, q + rn, A5, c5, by omega, by go_num, rfl, by unfold Hid; rw [HCS.out, List.length_append, HQ.out, HRN.out], by rw [HCS.out]; exact HON5.out, b5⟩
          case measure => simp [intOf]; omega
        · obtain rfl : j = i := by omega
          obtain rfl : q = m := by rw [← HQ.out, HNN.out]
          go_wp2_with fail
          go_ret
          exact ⟨⟨A', c', rfl, HO.out⟩, hbel⟩
end Go.Proofs.Ytinpiodfpnbllaa

/- A list of entries with one at each end: the reference's. -/
namespace Go.Proofs.Ytinpiodfpnbllaa
open Go.RowKit
set_option linter.unusedVariables false
set_option linter.unusedSimpArgs false

set_option maxHeartbeats 4000000 in
set_option maxRecDepth 100000 in
theorem refEnded_any (es : List Ent) (A : Option Addr) (c : Nat) (w : World) {n : Nat} (hn : es.length = n) (h : ER w A c es) (hs : n ≤ 1000) :
    Calls Try.prog 89 #[.slice A n c] w fun e w' => (∃ X x, e = .returned (.slice X (n + 2) x) ∧ OE w.heap.size w' X x (endedE es)) ∧ Below w.heap.size w w' := by
  have HN := Lib.hid hn
  have H := Lib.hid h
  have b0 := alloc_bel w (.cells (cellsE [(-1, 0)]).toArray 79)
  have O0 := Lib.hid (OE.lit w.heap.size w [(-1, 0)] (Nat.le_refl _) (by simp) (n := 1) rfl)
  have H0 := Lib.hid (h.below b0)
  have HC : Hid (#[Value.int .i64 (-1), Value.int .i64 0] = (cellsE [(-1, 0)]).toArray) := rfl
  have HC2 : Hid (#[Value.int .i64 64, Value.int .i64 0] = (cellsE [(64, 0)]).toArray) := rfl
  clear hn h
  go_enter Try.func89, Try.ntmps89
  go_wp2_with (first
    | (at_builtin; rw [HC.out]; refine wpList_append_ents _ rfl (.tmp 5) (.tmp 6) rfl w.heap.size (some ⟨w.heap.size, 0, none⟩) 1 1 [(-1, 0)] rfl rfl O0.out A n c es HN.out rfl (H0.out.src HN.out) (by omega) (by simp) ?_; intro A1 c1 w1 ho1 hb1 hg1; have b1 := b0.trans hb1; have O1 := Lib.hid (ho1.below (alloc_bel w1 (.cells (cellsE [(64, 0)]).toArray 79))); have b2 := b1.trans ((alloc_bel w1 (.cells (cellsE [(64, 0)]).toArray 79)).mono b1.size); have hz1 := b1.size; clear ho1 hg1 hb1)
    | (at_builtin; rw [HC2.out]; refine wpList_append_ents _ rfl (.tmp 8) (.tmp 10) rfl w.heap.size A1 (1 + n) c1 ([(-1, 0)] ++ es) (by rw [List.length_append, HN.out]; rfl) rfl O1.out (some ⟨w1.heap.size, 0, none⟩) 1 1 [(64, 0)] rfl rfl (src_litE [(64, 0)] rfl) (by omega) b2.size ?_; intro A3 c3 w3 ho3 hb3 hg3; have O3 := Lib.hid ho3; have b3 := b2.trans hb3; clear ho3 hg3 hb3))
  go_ret
  refine ⟨⟨A3, c3, ?_, ?_⟩, b3⟩
  · show Ending.returned _ = _
    rw [show n + 2 = 1 + n + 1 from by omega]
    rfl
  · exact O3.out
end Go.Proofs.Ytinpiodfpnbllaa

/- The leaves of a list of entries: the reference's. -/
namespace Go.Proofs.Ytinpiodfpnbllaa
open Go.RowKit
set_option linter.unusedVariables false
set_option linter.unusedSimpArgs false

theorem wpList_build_key {ops : Array Oper} {rest : List Oper} {o : Oper} {a : Act} {w : World} {Q : Exit → Act → World → Prop} (hgd : o.guard = none) (x : Operand) (ho : o.op = .buildSlice 40 1 #[(0, x)]) (k : List UInt8) (hk : k.length = 16) (hx : a.eval x = .agg (cellsB k).toArray)
    (h : wpList Try.prog ops Q rest (a.put o.dst (.slice (some ⟨w.heap.size, 0, none⟩) 1 1)) (w.alloc (.cells (cellsB k).toArray 23))) : wpList Try.prog ops Q (o :: rest) a w :=
  wpList_plain hgd fun K hK => by
    unfold Oper.wp execOp
    rw [ho]
    simp only [List.map_toArray, List.map_cons, List.map_nil, hx, Sem.run_bind, run_build_key w k hk, Result.andThen_ok]
    exact hK _ _ h
theorem OE.kept {B : Nat} {w w' : World} {A X : Option Addr} {c x : Nat} {es : List Ent} {ks : List (List UInt8)} (h : OE B w A c es) (ho : OK16 B w X x ks) (hg : w.grownBy w' (Value.ownBlock (.slice X ks.length x))) : OE B w' A c es := own_kept h ho (by decide) hg

set_option maxHeartbeats 4000000 in
set_option maxRecDepth 100000 in
theorem refLeaves_any (es : List Ent) (hv : ∀ x ∈ es, isE x = true) (A : Option Addr) (c : Nat) (w : World) {n : Nat} (hn : es.length = n) (h : ER w A c es) (hs : n ≤ 1000) :
    Calls Try.prog 87 #[.slice A n c] w fun e w' => (∃ X x, e = .returned (.slice X (n + 2) x) ∧ OK16 w.heap.size w' X x (leavesE es)) ∧ Below w.heap.size w w' := by
  have HN := Lib.hid hn
  have HE := Lib.hid (endedE_isE hv)
  have HEL : Hid ((endedE es).length = n + 2) := by unfold Hid; rw [endedE_length, hn]
  have HLL : Hid ((leavesE es).length = n + 2) := by unfold Hid; rw [leavesE_length, hn]
  have HC : Hid (Calls Try.prog 89 #[.slice A n c] w fun e w' => (∃ X x, e = .returned (.slice X (n + 2) x) ∧ OE w.heap.size w' X x (endedE es)) ∧ Below w.heap.size w w') := refEnded_any es A c w hn h hs
  have HST : Hid (∀ i (hi : i < (endedE es).length), (leavesE es).take (i + 1) = (leavesE es).take i ++ [leafE (endedE es)[i]]) := fun i hi => leavesE_step hi
  generalize endedE es = ds at *
  generalize leavesE es = ls at *
  clear hn h hv
  have hnb : (n : Int) ≤ 1000 := by omega
  go_enter Try.func87, Try.ntmps87
  go_wp2_with (go_at_call 89; refine HC.out.mono ?_; rintro e w1 ⟨⟨X, x, rfl, ho1⟩, b1⟩)
  have E1 := Lib.hid ho1
  clear ho1
  go_loopw [3, 5] (fun vo vi wr => ∃ (i : Nat) (A' : Option Addr) (c' : Nat), i ≤ n + 2 ∧ vi = .int .i64 (i : Int) ∧ vo = .slice A' i c' ∧ Hid (OK16 w.heap.size wr A' c' (ls.take i)) ∧ Hid (OE w.heap.size wr X x ds) ∧ Below w.heap.size w wr) (fun _ vi _ => n + 2 - (intOf vi).toNat)
  case atStart => exact ⟨0, none, 0, by omega, rfl, rfl, OK16.nil _ _, E1, b1⟩
  case round =>
    obtain ⟨i, A', c', hi, rfl, rfl, HO, HR, hbel⟩ := hrel
    by_cases hlt : i < n + 2
    · have hii : (i : Int) < (n : Int) + 2 := by omega
      have hil : i < ds.length := by have := HEL.out; omega
      obtain ⟨b, off, rfl, hb, hc0, hc1⟩ := (HR.out.er (by rw [HEL.out]; omega)).at_ hil
      have HTK := Lib.hid (HST.out i hil)
      have HX := Lib.hid (HE.out _ (List.getElem_mem hil))
      obtain ⟨y, hy⟩ : ∃ y, ds[i] = y := ⟨_, rfl⟩
      rw [hy] at hc0 hc1 HTK HX
      obtain ⟨r, u⟩ := y
      have HTL : Hid ((ls.take i).length = i) := by unfold Hid; rw [List.length_take, HLL.out]; omega
      have HLF : Hid ((leafE (r, u)).length = 16) := leafE_length _
      have HCL : Hid (∀ W, Calls Try.prog 93 #[.agg #[.int .i64 r, .int .i64 u]] W fun e w' => e = .returned (.agg (cellsB (leafE (r, u))).toArray) ∧ Below W.heap.size W w') := fun W => refLeaf_any r u W HX.out
      generalize leafE (r, u) = t at HTK HLF HCL
      simp only at hc0 hc1
      have hcl : (cellsB t).length = 16 := by rw [cellsB_length, HLF.out]
      have hall := all16 t
      clear hil hy HX
      go_wp2_with (first
        | (go_at_call 93; refine (HCL.out _).mono ?_; rintro e w2 ⟨rfl, hb2⟩; have B2 := bel_on hbel hb2; have O2 := Lib.hid ((HO.out.below hb2).below (alloc_bel w2 (.cells (cellsB t).toArray 23))); have B3 := bel_on B2 (alloc_bel w2 (.cells (cellsB t).toArray 23)); have R2 := Lib.hid ((HR.out.below hb2).below (alloc_bel w2 (.cells (cellsB t).toArray 23))); clear hb2)
        | (refine wpList_build_key rfl (.tmp 19) rfl t HLF.out rfl ?_)
        | (at_builtin; refine wpList_append_keysE _ rfl (.tmp 14) (.tmp 20) rfl w.heap.size A' i c' _ HTL.out rfl O2.out (some ⟨w2.heap.size, 0, none⟩) 1 1 [t] rfl rfl (src_key w2 HLF.out) (by omega) B3.size ?_; intro A3 c3 w3 ho3 hb3 hg3; have R3 := Lib.hid (OE.kept R2.out O2.out (by rw [HTL.out]; exact hg3)); clear hg3; have O3 := Lib.hid ho3; have B4 := B3.trans hb3; clear ho3))
      go_roundw
      case rel => exact ⟨i + 1, A3, c3, by omega, by go_num, rfl, by rw [HTK.out]; exact O3.out, R3.out, B4⟩
      case measure => simp [intOf]; omega
    · obtain rfl : i = n + 2 := by omega
      go_wp2_with fail
      go_ret
      refine ⟨⟨A', c', rfl, ?_⟩, hbel⟩
      have := HO.out
      rwa [List.take_of_length_le (by rw [HLL.out]; omega)] at this
end Go.Proofs.Ytinpiodfpnbllaa
