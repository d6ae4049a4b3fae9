/-
  Lemmas and contracts, joined.
-/
import Derived.Deep.QuietTactic
import Derived.BigQuiet
import Derived.Test.YtinpiodfpnbllaaGreatDoorAuB5
import Derived.Test.YtinpiodfpnbllaaGreatDoorAuB3
import Derived.Test.YtinpiodfpnbllaaGreatDoorAuE1
set_option linter.unusedSimpArgs false
set_option linter.unusedVariables false
set_option linter.unnecessarySimpa false
/- The search in a list of entries that rise. -/
namespace Go.Proofs.YtinpiodfpnbllaaGreatDoor
open Go.RowKit
set_option linter.unusedVariables false
set_option linter.unusedSimpArgs false

/-- How many entries lie below u. -/
def lowE (ds : List Ent) (u : Int) : Nat := (ds.takeWhile fun x => decide (x.1 < u)).length
def hitE (ds : List Ent) (u : Int) : Bool := decide ((ds.getD (lowE ds u) (0, 0)).1 = u ∧ lowE ds u < ds.length)
end Go.Proofs.YtinpiodfpnbllaaGreatDoor

/- The place of a receiver in a list: the program's. -/
namespace Go.Proofs.YtinpiodfpnbllaaGreatDoor
open Go.RowKit
set_option linter.unusedVariables false
set_option linter.unusedSimpArgs false

end Go.Proofs.YtinpiodfpnbllaaGreatDoor

/- The growth of a list: the program's. -/
namespace Go.Proofs.YtinpiodfpnbllaaGreatDoor
open Go.RowKit
set_option linter.unusedVariables false
set_option linter.unusedSimpArgs false

end Go.Proofs.YtinpiodfpnbllaaGreatDoor

/- The proof that a receiver is on a list: the program's. -/
namespace Go.Proofs.YtinpiodfpnbllaaGreatDoor
open Go.RowKit
set_option linter.unusedVariables false
set_option linter.unusedSimpArgs false

/-- What is returned: an entry, a proof, an error. -/
def OnEnd (B : Nat) (x : Ent) (a b : Int) (P : List (List UInt8)) (e0 : Int) (e : Ending) (w' : World) : Prop := ∃ A c, e = .returned (.tuple #[.agg (cellsX x).toArray, .agg (prC a b A P.length c).toArray, .int .i64 e0]) ∧ OK16 B w' A c P
structure OnV where
  x : Ent
  a : Int
  b : Int
  P : List (List UInt8)
  e : Int
def onS (es : List Ent) (u : Int) : OnV := if validL es = false then ⟨(0, 0), 0, 0, [], 90⟩ else if u < 0 ∨ 64 ≤ u then ⟨(0, 0), 0, 0, [], 2⟩ else if hitE (endedE es) u = false then ⟨(0, 0), 0, 0, [], 6⟩ else ⟨(endedE es).getD (lowE (endedE es) u) (0, 0), ((es.length + 2 : Nat) : Int), (lowE (endedE es) u : Int), pathS (leavesE es) (lowE (endedE es) u), 0⟩

end Go.Proofs.YtinpiodfpnbllaaGreatDoor

/- The proof that a receiver is not on a list: the program's. -/
namespace Go.Proofs.YtinpiodfpnbllaaGreatDoor
open Go.RowKit
set_option linter.unusedVariables false
set_option linter.unusedSimpArgs false

/-- What is returned: a proof of absence, an error. -/
structure OffV where
  lo : Ent
  hi : Ent
  a : Int
  b : Int
  P : List (List UInt8)
  a2 : Int
  b2 : Int
  P2 : List (List UInt8)
  e : Int
/-- The cells of a proof of absence. -/
def abC (v : OffV) (A : Option Addr) (n c : Nat) (A2 : Option Addr) (n2 c2 : Nat) : List Value := [.int .i64 v.lo.1, .int .i64 v.lo.2, .int .i64 v.hi.1, .int .i64 v.hi.2, .int .i64 v.a, .int .i64 v.b, .slice A n c, .int .i64 v.a2, .int .i64 v.b2, .slice A2 n2 c2]
def OffEnd (B : Nat) (v : OffV) (e : Ending) (w' : World) : Prop := ∃ A c A2 c2, e = .returned (.tuple #[.agg (abC v A v.P.length c A2 v.P2.length c2).toArray, .int .i64 v.e]) ∧ OK16 B w' A c v.P ∧ OK16 B w' A2 c2 v.P2
def offZ (e : Int) : OffV := ⟨(0, 0), (0, 0), 0, 0, [], 0, 0, [], e⟩
def offS (es : List Ent) (u : Int) : OffV := if validL es = false then offZ 90 else if u < 0 ∨ 64 ≤ u then offZ 2 else if hitE (endedE es) u = true then offZ 6 else ⟨(endedE es).getD (lowE (endedE es) u - 1) (0, 0), (endedE es).getD (lowE (endedE es) u) (0, 0), ((es.length + 2 : Nat) : Int), ((lowE (endedE es) u - 1 : Nat) : Int), pathS (leavesE es) (lowE (endedE es) u - 1), ((es.length + 2 : Nat) : Int), (lowE (endedE es) u : Int), pathS (leavesE es) (lowE (endedE es) u), 0⟩

end Go.Proofs.YtinpiodfpnbllaaGreatDoor

/- ListRoot and Leaf: the program's. -/
namespace Go.Proofs.YtinpiodfpnbllaaGreatDoor
open Go.RowKit
set_option linter.unusedVariables false
set_option linter.unusedSimpArgs false

attribute [local go_sem] run_storeCells_key run_storeCells_new

/-- The root of a revocation list, and the error. -/
def lrS (l : List Ent) : List UInt8 × Int := if validL l = false then (zeroK, 90) else (rootS (leavesE l), 0)
/-- The leaf of an entry, and the error. -/
def lfS (x : Ent) : List UInt8 × Int := if isE x = true then (leafE x, 0) else (zeroK, 2)

set_option maxHeartbeats 4000000 in
set_option maxRecDepth 100000 in
theorem ListRoot_any (l : List Ent) (A : Option Addr) (c : Nat) (w : World) {n : Nat} (hn : l.length = n) (h : ER w A c l) : Calls Tryz.prog 53 #[.slice A n c] w fun e w' => e = .returned (.tuple #[.agg (cellsB (lrS l).1).toArray, .int .i64 (lrS l).2]) ∧ Below w.heap.size w w' := by
  have HZ := Lib.hid zero16
  have b0 := alloc_bel w (.cells (cellsB zeroK).toArray 24)
  have B0 := Lib.hid (Blk.new w 24 (cellsB zeroK).toArray)
  have HC : Hid (∀ W, Below w.heap.size w W → Calls Tryz.prog 30 #[.slice A n c] W fun e w' => e = .returned (.int .i64 (ckL (validL l))) ∧ Below W.heap.size W w') := fun W hW => checkList_any l A c W hn (h.below hW)
  cases hv : validL l with
  | false =>
    have HS : Hid (lrS l = (zeroK, 90)) := by unfold Hid lrS; rw [if_pos hv]
    rw [hv] at HC
    change Hid (∀ W, Below w.heap.size w W → Calls Tryz.prog 30 #[.slice A n c] W fun e w' => e = .returned (.int .i64 90) ∧ Below W.heap.size W w') at HC
    have hdc : (cellsB zeroK).length = 16 := rfl
    have hall := all16 zeroK
    clear hn h hv
    go_enter Tryz.func53, Tryz.ntmps53
    go_wp2_with (first
      | (go_at_call 30; rw [HZ.out]; refine (HC.out _ b0).mono ?_; rintro e w1 ⟨rfl, hb1⟩; have b1 := bel_on b0 hb1; have Q1 := B0.out.below' hb1; have hr1 : (rowAt w1 w.heap.size).size = 16 := (by rw [Q1.row]; rfl); have hf1 := Q1.free; have HQ1 := Lib.hid Q1; clear Q1)
      | ((first | rw [HZ.out] | skip); refine wpList_buildTo rfl 24 #[] rfl (some 11) rfl (cellsB zeroK).toArray (by kernel_rfl) ?_))
    refine bodyPost_ret (v := .tuple #[.agg (cellsB zeroK).toArray, .int .i64 90]) ?_ rfl ⟨by rw [HS.out], below_setRow b1 (Nat.le_refl _) _⟩
    rw [results_cell_tmp Tryz.results53]
    simp [asAddr, Result.andThen, run_loadVar_row _ w.heap.size _ _ _ (0, 0) _ (HQ1.out.setRow (cellsB zeroK).toArray) under_key rfl (cellsB_size _ rfl)]
  | true =>
    have HS : Hid (lrS l = (rootS (leavesE l), 0)) := by unfold Hid lrS; rw [if_neg (by rw [hv]; simp)]
    rw [hv] at HC
    change Hid (∀ W, Below w.heap.size w W → Calls Tryz.prog 30 #[.slice A n c] W fun e w' => e = .returned (.int .i64 0) ∧ Below W.heap.size W w') at HC
    have hl := validL_length hv
    have HDL : Hid ((rootS (leavesE l)).length = 16) := rootS_length _
    have HE : Hid (∀ W, Below w.heap.size w W → Calls Tryz.prog 115 #[.slice A n c] W fun e w' => (∃ X x Y y, e = .returned (.tuple #[.slice X (n + 2) x, .slice Y (n + 2) y]) ∧ OE W.heap.size w' X x (endedE l) ∧ OK16 W.heap.size w' Y y (leavesE l)) ∧ Below W.heap.size W w') := fun W hW => ended_any l (fun x hx => isE_ok ((validL_iff.1 hv).1 x hx)) A c W hn (h.below hW) (by omega)
    have HD : Hid (∀ Y y W, OK16 W.heap.size W Y y (leavesE l) ∨ KR W Y y (leavesE l) → KR W Y y (leavesE l) → Calls Tryz.prog 79 #[.slice Y (n + 2) y] W fun e w' => e = .returned (.agg (cellsB (rootS (leavesE l))).toArray) ∧ Below W.heap.size W w') := fun Y y W _ hk => root_any (leavesE l) Y y W (by rw [leavesE_length, hn]) (by omega) hk
    have HK : Hid (∀ B W Y y, OK16 B W Y y (leavesE l) → KR W Y y (leavesE l)) := fun B W Y y ho => ho.kr (leavesE_16 l) (by rw [leavesE_length]; omega)
    generalize leavesE l = ls at *
    generalize rootS ls = d at HD HDL HS
    have hdc : (cellsB d).length = 16 := by rw [cellsB_length, HDL.out]
    have hall := all16 d
    clear hn h hv hl
    go_enter Tryz.func53, Tryz.ntmps53
    go_wp2_with (first
      | (go_at_call 30; rw [HZ.out]; refine (HC.out _ b0).mono ?_; rintro e w1 ⟨rfl, hb1⟩; have b1 := bel_on b0 hb1; have Q1 := Lib.hid (B0.out.below' hb1); clear hb1)
      | (go_at_call 115; refine (HE.out _ b1).mono ?_; rintro e w2 ⟨⟨X, x, Y, y, rfl, _, hk⟩, hb2⟩; have b2 := bel_on b1 hb2; have Q2 := Lib.hid (Q1.out.below' hb2); have K2 := Lib.hid (HK.out _ _ _ _ hk); clear hk hb2)
      | (go_at_call 79; refine (HD.out _ _ _ (.inr K2.out) K2.out).mono ?_; rintro e w3 ⟨rfl, hb3⟩; have b3 := bel_on b2 hb3; have Q3 := Q2.out.below' hb3; have hr1 : (rowAt w3 w.heap.size).size = 16 := (by rw [Q3.row]; rfl); have hf1 := Q3.free; have HQ3 := Lib.hid Q3; clear Q3 hb3))
    refine bodyPost_ret (v := .tuple #[.agg (cellsB d).toArray, .int .i64 0]) ?_ rfl ⟨by rw [HS.out], below_setRow b3 (Nat.le_refl _) _⟩
    rw [results_cell_tmp Tryz.results53]
    simp [asAddr, Result.andThen, run_loadVar_row _ w.heap.size _ _ _ (0, 0) _ (HQ3.out.setRow (cellsB d).toArray) under_key rfl (cellsB_size _ HDL.out)]

set_option maxHeartbeats 4000000 in
set_option maxRecDepth 100000 in
theorem Leaf_any (r u : Int) (w : World) : Calls Tryz.prog 55 #[.agg #[.int .i64 r, .int .i64 u]] w fun e w' => e = .returned (.tuple #[.agg (cellsB (lfS (r, u)).1).toArray, .int .i64 (lfS (r, u)).2]) ∧ Below w.heap.size w w' := by
  have HZ := Lib.hid zero16
  have b0 := alloc2_bel w (.cells #[.int .i64 r, .int .i64 u] 98) (.cells (cellsB zeroK).toArray 24)
  have E0 := Lib.hid (blk_b0 w #[.int .i64 r, .int .i64 u] 98 (.cells (cellsB zeroK).toArray 24))
  have B0 := Lib.hid (blk_b1 w (.cells #[.int .i64 r, .int .i64 u] 98) (cellsB zeroK).toArray 24)
  have HI : Hid (∀ W, Calls Tryz.prog 116 #[.agg #[.int .i64 r, .int .i64 u]] W fun e w' => e = .returned (.bool (isE (r, u))) ∧ Below W.heap.size W w') := fun W => isEntry_any r u W
  have i0 : ((w.alloc (.cells #[.int .i64 r, .int .i64 u] 98)).alloc (.cells (cellsB zeroK).toArray 24)).cell? ⟨w.heap.size, 0, none⟩ = some (.int .i64 r) := E0.out.cell 0
  have i1 : ((w.alloc (.cells #[.int .i64 r, .int .i64 u] 98)).alloc (.cells (cellsB zeroK).toArray 24)).cell? ⟨w.heap.size, 1, none⟩ = some (.int .i64 u) := E0.out.cell 1
  cases hx : isE (r, u) with
  | false =>
    have HS : Hid (lfS (r, u) = (zeroK, 2)) := by unfold Hid lfS; rw [hx]; rfl
    rw [hx] at HI
    have hdc : (cellsB zeroK).length = 16 := rfl
    have hall := all16 zeroK
    clear hx
    go_enter Tryz.func55, Tryz.ntmps55
    go_wp2_with (first
      | (go_at_call 116; rw [HZ.out]; refine (HI.out _).mono ?_; rintro e w1 ⟨rfl, hb1⟩; have b1 := bel_on b0 hb1; have Q1 := B0.out.below' hb1; have hr1 : (rowAt w1 (w.heap.size + 1)).size = 16 := (by rw [Q1.row]; rfl); have hf1 := Q1.free; have HQ1 := Lib.hid Q1; clear Q1 i0 i1)
      | ((first | rw [HZ.out] | skip); refine wpList_buildTo rfl 24 #[] rfl (some 7) rfl (cellsB zeroK).toArray (by kernel_rfl) ?_))
    refine bodyPost_ret (v := .tuple #[.agg (cellsB zeroK).toArray, .int .i64 2]) ?_ rfl ⟨by rw [HS.out], below_setRow b1 (by omega) _⟩
    rw [results_cell_tmp Tryz.results55]
    simp [asAddr, Result.andThen, run_loadVar_row _ (w.heap.size + 1) _ _ _ (0, 0) _ (HQ1.out.setRow (cellsB zeroK).toArray) under_key rfl (cellsB_size _ rfl)]
  | true =>
    have HS : Hid (lfS (r, u) = (leafE (r, u), 0)) := by unfold Hid lfS; rw [if_pos hx]
    rw [hx] at HI
    have HL : Hid (∀ W, Calls Tryz.prog 117 #[.agg #[.int .i64 r, .int .i64 u]] W fun e w' => e = .returned (.agg (cellsB (leafE (r, u))).toArray) ∧ Below W.heap.size W w') := fun W => leaf_any r u W hx
    have HDL : Hid ((leafE (r, u)).length = 16) := leafE_length _
    generalize leafE (r, u) = d at HL HDL HS
    have hdc : (cellsB d).length = 16 := by rw [cellsB_length, HDL.out]
    have hall := all16 d
    clear hx
    go_enter Tryz.func55, Tryz.ntmps55
    go_wp2_with (first
      | (go_at_call 116; rw [HZ.out]; refine (HI.out _).mono ?_; rintro e w1 ⟨rfl, hb1⟩; have b1 := bel_on b0 hb1; have Q1 := Lib.hid (B0.out.below' hb1); have j0 : w1.cell? ⟨w.heap.size, 0, none⟩ = some (.int .i64 r) := (E0.out.below' hb1).cell 0; have j1 : w1.cell? ⟨w.heap.size, 1, none⟩ = some (.int .i64 u) := (E0.out.below' hb1).cell 1; clear i0 i1 hb1)
      | (go_at_call 117; refine (HL.out _).mono ?_; rintro e w2 ⟨rfl, hb2⟩; have b2 := bel_on b1 hb2; have Q2 := Q1.out.below' hb2; have hr1 : (rowAt w2 (w.heap.size + 1)).size = 16 := (by rw [Q2.row]; rfl); have hf1 := Q2.free; have HQ2 := Lib.hid Q2; clear Q2 hb2 j0 j1))
    refine bodyPost_ret (v := .tuple #[.agg (cellsB d).toArray, .int .i64 0]) ?_ rfl ⟨by rw [HS.out], below_setRow b2 (by omega) _⟩
    rw [results_cell_tmp Tryz.results55]
    simp [asAddr, Result.andThen, run_loadVar_row _ (w.heap.size + 1) _ _ _ (0, 0) _ (HQ2.out.setRow (cellsB d).toArray) under_key rfl (cellsB_size _ HDL.out)]
end Go.Proofs.YtinpiodfpnbllaaGreatDoor

/- On a list or not: what the two proofs hold, in plain words. -/
namespace Go.Proofs.YtinpiodfpnbllaaGreatDoor
set_option linter.unusedVariables false
set_option linter.unusedSimpArgs false

end Go.Proofs.YtinpiodfpnbllaaGreatDoor

/- Whether a proof of absence is accepted: the program's. -/
namespace Go.Proofs.YtinpiodfpnbllaaGreatDoor
open Go.RowKit
set_option linter.unusedVariables false
set_option linter.unusedSimpArgs false
attribute [local go_sem] run_storeCells_key run_storeCells_new equalIn_keys

set_option maxHeartbeats 16000000 in
set_option maxRecDepth 100000 in
theorem voff_out (root : List UInt8) (u r0 q0 r1 q1 a b a2 b2 : Int) (P R : List (List UInt8)) (A A2 : Option Addr) (c c2 : Nat) (w : World) {m1 m2 : Nat} (hr : root.length = 16) (hm1 : P.length = m1) (hm2 : R.length = m2) (h : KR w A c P) (h2 : KR w A2 c2 R) (hu : u < 0 ∨ 64 ≤ u) :
    Calls Tryz.prog 54 #[.agg (cellsB root).toArray, .int .i64 u, .agg #[.int .i64 r0, .int .i64 q0, .int .i64 r1, .int .i64 q1, .int .i64 a, .int .i64 b, .slice A m1 c, .int .i64 a2, .int .i64 b2, .slice A2 m2 c2]] w fun e w' => e = .returned (.tuple #[.bool (voS root u (r0, q0) (r1, q1) a b P a2 b2 R).1, .int .i64 (voS root u (r0, q0) (r1, q1) a b P a2 b2 R).2]) ∧ Below w.heap.size w w' := by
  have b0 := alloc2_bel w (.cells (cellsB root).toArray 24) (.cells #[.int .i64 r0, .int .i64 q0, .int .i64 r1, .int .i64 q1, .int .i64 a, .int .i64 b, .slice A m1 c, .int .i64 a2, .int .i64 b2, .slice A2 m2 c2] 100)
  have HS : Hid (voS root u (r0, q0) (r1, q1) a b P a2 b2 R = (false, 2)) := by unfold Hid voS; rw [if_pos hu]
  clear hr hm1 hm2 h h2
  rcases hu with hu | hu
  · go_enter Tryz.func54, Tryz.ntmps54
    go_wp2_with fail
    go_ret2
    rw [HS.out]
    exact ⟨rfl, b0⟩
  · have s0 : decide (u < 0) = false := by simp; omega
    go_enter Tryz.func54, Tryz.ntmps54
    go_wp2_with fail
    go_ret2
    rw [HS.out]
    exact ⟨rfl, b0⟩

set_option maxHeartbeats 16000000 in
set_option maxRecDepth 100000 in
theorem voff_unfit (root : List UInt8) (u r0 q0 r1 q1 a b a2 b2 : Int) (P R : List (List UInt8)) (A A2 : Option Addr) (c c2 : Nat) (w : World) {m1 m2 : Nat} (hr : root.length = 16) (hm1 : P.length = m1) (hm2 : R.length = m2) (h : KR w A c P) (h2 : KR w A2 c2 R) (h3 : 0 ≤ u) (h4 : u < 64) (hv : okV (r0, q0) (r1, q1) a b m1 a2 b2 m2 = false) :
    Calls Tryz.prog 54 #[.agg (cellsB root).toArray, .int .i64 u, .agg #[.int .i64 r0, .int .i64 q0, .int .i64 r1, .int .i64 q1, .int .i64 a, .int .i64 b, .slice A m1 c, .int .i64 a2, .int .i64 b2, .slice A2 m2 c2]] w fun e w' => e = .returned (.tuple #[.bool (voS root u (r0, q0) (r1, q1) a b P a2 b2 R).1, .int .i64 (voS root u (r0, q0) (r1, q1) a b P a2 b2 R).2]) ∧ Below w.heap.size w w' := by
  have b0 := alloc2_bel w (.cells (cellsB root).toArray 24) (.cells #[.int .i64 r0, .int .i64 q0, .int .i64 r1, .int .i64 q1, .int .i64 a, .int .i64 b, .slice A m1 c, .int .i64 a2, .int .i64 b2, .slice A2 m2 c2] 100)
  have hml1 := h.len
  have hml2 := h2.len
  have BA : Hid (∀ W, Below ((w.alloc (.cells (cellsB root).toArray 24)).alloc (.cells #[.int .i64 r0, .int .i64 q0, .int .i64 r1, .int .i64 q1, .int .i64 a, .int .i64 b, .slice A m1 c, .int .i64 a2, .int .i64 b2, .slice A2 m2 c2] 100)).heap.size ((w.alloc (.cells (cellsB root).toArray 24)).alloc (.cells #[.int .i64 r0, .int .i64 q0, .int .i64 r1, .int .i64 q1, .int .i64 a, .int .i64 b, .slice A m1 c, .int .i64 a2, .int .i64 b2, .slice A2 m2 c2] 100)) W → Blk W (w.heap.size + 1) 100 #[.int .i64 r0, .int .i64 q0, .int .i64 r1, .int .i64 q1, .int .i64 a, .int .i64 b, .slice A m1 c, .int .i64 a2, .int .i64 b2, .slice A2 m2 c2]) := fun W hW => (blk_b1 w (.cells (cellsB root).toArray 24) #[.int .i64 r0, .int .i64 q0, .int .i64 r1, .int .i64 q1, .int .i64 a, .int .i64 b, .slice A m1 c, .int .i64 a2, .int .i64 b2, .slice A2 m2 c2] 100).below' hW
  have BR : Hid (∀ W, Below ((w.alloc (.cells (cellsB root).toArray 24)).alloc (.cells #[.int .i64 r0, .int .i64 q0, .int .i64 r1, .int .i64 q1, .int .i64 a, .int .i64 b, .slice A m1 c, .int .i64 a2, .int .i64 b2, .slice A2 m2 c2] 100)).heap.size ((w.alloc (.cells (cellsB root).toArray 24)).alloc (.cells #[.int .i64 r0, .int .i64 q0, .int .i64 r1, .int .i64 q1, .int .i64 a, .int .i64 b, .slice A m1 c, .int .i64 a2, .int .i64 b2, .slice A2 m2 c2] 100)) W → Blk W w.heap.size 24 (cellsB root).toArray) := fun W hW => (blk_b0 w (cellsB root).toArray 24 (.cells #[.int .i64 r0, .int .i64 q0, .int .i64 r1, .int .i64 q1, .int .i64 a, .int .i64 b, .slice A m1 c, .int .i64 a2, .int .i64 b2, .slice A2 m2 c2] 100)).below' hW
  have D0 : Below ((w.alloc (.cells (cellsB root).toArray 24)).alloc (.cells #[.int .i64 r0, .int .i64 q0, .int .i64 r1, .int .i64 q1, .int .i64 a, .int .i64 b, .slice A m1 c, .int .i64 a2, .int .i64 b2, .slice A2 m2 c2] 100)).heap.size ((w.alloc (.cells (cellsB root).toArray 24)).alloc (.cells #[.int .i64 r0, .int .i64 q0, .int .i64 r1, .int .i64 q1, .int .i64 a, .int .i64 b, .slice A m1 c, .int .i64 a2, .int .i64 b2, .slice A2 m2 c2] 100)) ((w.alloc (.cells (cellsB root).toArray 24)).alloc (.cells #[.int .i64 r0, .int .i64 q0, .int .i64 r1, .int .i64 q1, .int .i64 a, .int .i64 b, .slice A m1 c, .int .i64 a2, .int .i64 b2, .slice A2 m2 c2] 100)) := Below.refl _ _
  have HE0 : Hid (∀ W, Calls Tryz.prog 116 #[.agg #[.int .i64 r0, .int .i64 q0]] W fun e w' => e = .returned (.bool (isE (r0, q0))) ∧ Below W.heap.size W w') := fun W => isEntry_any r0 q0 W
  have HE1 : Hid (∀ W, Calls Tryz.prog 116 #[.agg #[.int .i64 r1, .int .i64 q1]] W fun e w' => e = .returned (.bool (isE (r1, q1))) ∧ Below W.heap.size W w') := fun W => isEntry_any r1 q1 W
  have HF0 : Hid (∀ W, Calls Tryz.prog 73 #[.agg #[.int .i64 a, .int .i64 b, .slice A m1 c]] W fun e w' => e = .returned (.bool (fitsB a b m1)) ∧ Below W.heap.size W w') := fun W => fits_any a b A m1 c W (by omega)
  have HF1 : Hid (∀ W, Calls Tryz.prog 73 #[.agg #[.int .i64 a2, .int .i64 b2, .slice A2 m2 c2]] W fun e w' => e = .returned (.bool (fitsB a2 b2 m2)) ∧ Below W.heap.size W w') := fun W => fits_any a2 b2 A2 m2 c2 W (by omega)
  have HS : Hid (voS root u (r0, q0) (r1, q1) a b P a2 b2 R = (false, 8)) := by unfold Hid voS; rw [if_neg (by omega), hm1, hm2, if_pos hv]
  have s0 : decide (u < 0) = false := by simp; omega
  have s1 : decide (64 ≤ u) = false := by simp; omega
  unfold okV at hv
  clear hr hm1 hm2 h h2 h3 h4 hml1 hml2
  cases x0 : isE (r0, q0) with
  | false =>
    rw [x0] at HE0
    clear hv x0
    have k0 : ((w.alloc (.cells (cellsB root).toArray 24)).alloc (.cells #[.int .i64 r0, .int .i64 q0, .int .i64 r1, .int .i64 q1, .int .i64 a, .int .i64 b, .slice A m1 c, .int .i64 a2, .int .i64 b2, .slice A2 m2 c2] 100)).cell? ⟨w.heap.size + 1, 0, none⟩ = some (.int .i64 r0) := (BA.out _ D0).cell 0; have k1 : ((w.alloc (.cells (cellsB root).toArray 24)).alloc (.cells #[.int .i64 r0, .int .i64 q0, .int .i64 r1, .int .i64 q1, .int .i64 a, .int .i64 b, .slice A m1 c, .int .i64 a2, .int .i64 b2, .slice A2 m2 c2] 100)).cell? ⟨w.heap.size + 1, 1, none⟩ = some (.int .i64 q0) := (BA.out _ D0).cell 1; have k2 : ((w.alloc (.cells (cellsB root).toArray 24)).alloc (.cells #[.int .i64 r0, .int .i64 q0, .int .i64 r1, .int .i64 q1, .int .i64 a, .int .i64 b, .slice A m1 c, .int .i64 a2, .int .i64 b2, .slice A2 m2 c2] 100)).cell? ⟨w.heap.size + 1, 2, none⟩ = some (.int .i64 r1) := (BA.out _ D0).cell 2; have k3 : ((w.alloc (.cells (cellsB root).toArray 24)).alloc (.cells #[.int .i64 r0, .int .i64 q0, .int .i64 r1, .int .i64 q1, .int .i64 a, .int .i64 b, .slice A m1 c, .int .i64 a2, .int .i64 b2, .slice A2 m2 c2] 100)).cell? ⟨w.heap.size + 1, 3, none⟩ = some (.int .i64 q1) := (BA.out _ D0).cell 3; have k4 : ((w.alloc (.cells (cellsB root).toArray 24)).alloc (.cells #[.int .i64 r0, .int .i64 q0, .int .i64 r1, .int .i64 q1, .int .i64 a, .int .i64 b, .slice A m1 c, .int .i64 a2, .int .i64 b2, .slice A2 m2 c2] 100)).cell? ⟨w.heap.size + 1, 4, none⟩ = some (.int .i64 a) := (BA.out _ D0).cell 4; have k5 : ((w.alloc (.cells (cellsB root).toArray 24)).alloc (.cells #[.int .i64 r0, .int .i64 q0, .int .i64 r1, .int .i64 q1, .int .i64 a, .int .i64 b, .slice A m1 c, .int .i64 a2, .int .i64 b2, .slice A2 m2 c2] 100)).cell? ⟨w.heap.size + 1, 5, none⟩ = some (.int .i64 b) := (BA.out _ D0).cell 5; have k6 : ((w.alloc (.cells (cellsB root).toArray 24)).alloc (.cells #[.int .i64 r0, .int .i64 q0, .int .i64 r1, .int .i64 q1, .int .i64 a, .int .i64 b, .slice A m1 c, .int .i64 a2, .int .i64 b2, .slice A2 m2 c2] 100)).cell? ⟨w.heap.size + 1, 6, none⟩ = some (.slice A m1 c) := (BA.out _ D0).cell 6; have k7 : ((w.alloc (.cells (cellsB root).toArray 24)).alloc (.cells #[.int .i64 r0, .int .i64 q0, .int .i64 r1, .int .i64 q1, .int .i64 a, .int .i64 b, .slice A m1 c, .int .i64 a2, .int .i64 b2, .slice A2 m2 c2] 100)).cell? ⟨w.heap.size + 1, 7, none⟩ = some (.int .i64 a2) := (BA.out _ D0).cell 7; have k8 : ((w.alloc (.cells (cellsB root).toArray 24)).alloc (.cells #[.int .i64 r0, .int .i64 q0, .int .i64 r1, .int .i64 q1, .int .i64 a, .int .i64 b, .slice A m1 c, .int .i64 a2, .int .i64 b2, .slice A2 m2 c2] 100)).cell? ⟨w.heap.size + 1, 8, none⟩ = some (.int .i64 b2) := (BA.out _ D0).cell 8; have k9 : ((w.alloc (.cells (cellsB root).toArray 24)).alloc (.cells #[.int .i64 r0, .int .i64 q0, .int .i64 r1, .int .i64 q1, .int .i64 a, .int .i64 b, .slice A m1 c, .int .i64 a2, .int .i64 b2, .slice A2 m2 c2] 100)).cell? ⟨w.heap.size + 1, 9, none⟩ = some (.slice A2 m2 c2) := (BA.out _ D0).cell 9
    go_enter Tryz.func54, Tryz.ntmps54
    go_wp2_with (first
      | (go_at_call 116; (with_reducible refine (HE0.out _).mono ?_); rintro e w1 ⟨rfl, hb1⟩; clear k0 k1 k2 k3 k4 k5 k6 k7 k8 k9; have D1 := bel_on D0 hb1; clear hb1; have Q1 := BA.out _ D1; have k0 : w1.cell? ⟨w.heap.size + 1, 0, none⟩ = some (.int .i64 r0) := Q1.cell 0; have k1 : w1.cell? ⟨w.heap.size + 1, 1, none⟩ = some (.int .i64 q0) := Q1.cell 1; have k2 : w1.cell? ⟨w.heap.size + 1, 2, none⟩ = some (.int .i64 r1) := Q1.cell 2; have k3 : w1.cell? ⟨w.heap.size + 1, 3, none⟩ = some (.int .i64 q1) := Q1.cell 3; have k4 : w1.cell? ⟨w.heap.size + 1, 4, none⟩ = some (.int .i64 a) := Q1.cell 4; have k5 : w1.cell? ⟨w.heap.size + 1, 5, none⟩ = some (.int .i64 b) := Q1.cell 5; have k6 : w1.cell? ⟨w.heap.size + 1, 6, none⟩ = some (.slice A m1 c) := Q1.cell 6; have k7 : w1.cell? ⟨w.heap.size + 1, 7, none⟩ = some (.int .i64 a2) := Q1.cell 7; have k8 : w1.cell? ⟨w.heap.size + 1, 8, none⟩ = some (.int .i64 b2) := Q1.cell 8; have k9 : w1.cell? ⟨w.heap.size + 1, 9, none⟩ = some (.slice A2 m2 c2) := Q1.cell 9; clear Q1))
    go_ret2
    rw [HS.out]
    exact ⟨rfl, bel_on b0 D1⟩
  | true =>
    cases x1 : isE (r1, q1) with
    | false =>
      rw [x0] at HE0; rw [x1] at HE1
      clear hv x0 x1
      have k0 : ((w.alloc (.cells (cellsB root).toArray 24)).alloc (.cells #[.int .i64 r0, .int .i64 q0, .int .i64 r1, .int .i64 q1, .int .i64 a, .int .i64 b, .slice A m1 c, .int .i64 a2, .int .i64 b2, .slice A2 m2 c2] 100)).cell? ⟨w.heap.size + 1, 0, none⟩ = some (.int .i64 r0) := (BA.out _ D0).cell 0; have k1 : ((w.alloc (.cells (cellsB root).toArray 24)).alloc (.cells #[.int .i64 r0, .int .i64 q0, .int .i64 r1, .int .i64 q1, .int .i64 a, .int .i64 b, .slice A m1 c, .int .i64 a2, .int .i64 b2, .slice A2 m2 c2] 100)).cell? ⟨w.heap.size + 1, 1, none⟩ = some (.int .i64 q0) := (BA.out _ D0).cell 1; have k2 : ((w.alloc (.cells (cellsB root).toArray 24)).alloc (.cells #[.int .i64 r0, .int .i64 q0, .int .i64 r1, .int .i64 q1, .int .i64 a, .int .i64 b, .slice A m1 c, .int .i64 a2, .int .i64 b2, .slice A2 m2 c2] 100)).cell? ⟨w.heap.size + 1, 2, none⟩ = some (.int .i64 r1) := (BA.out _ D0).cell 2; have k3 : ((w.alloc (.cells (cellsB root).toArray 24)).alloc (.cells #[.int .i64 r0, .int .i64 q0, .int .i64 r1, .int .i64 q1, .int .i64 a, .int .i64 b, .slice A m1 c, .int .i64 a2, .int .i64 b2, .slice A2 m2 c2] 100)).cell? ⟨w.heap.size + 1, 3, none⟩ = some (.int .i64 q1) := (BA.out _ D0).cell 3; have k4 : ((w.alloc (.cells (cellsB root).toArray 24)).alloc (.cells #[.int .i64 r0, .int .i64 q0, .int .i64 r1, .int .i64 q1, .int .i64 a, .int .i64 b, .slice A m1 c, .int .i64 a2, .int .i64 b2, .slice A2 m2 c2] 100)).cell? ⟨w.heap.size + 1, 4, none⟩ = some (.int .i64 a) := (BA.out _ D0).cell 4; have k5 : ((w.alloc (.cells (cellsB root).toArray 24)).alloc (.cells #[.int .i64 r0, .int .i64 q0, .int .i64 r1, .int .i64 q1, .int .i64 a, .int .i64 b, .slice A m1 c, .int .i64 a2, .int .i64 b2, .slice A2 m2 c2] 100)).cell? ⟨w.heap.size + 1, 5, none⟩ = some (.int .i64 b) := (BA.out _ D0).cell 5; have k6 : ((w.alloc (.cells (cellsB root).toArray 24)).alloc (.cells #[.int .i64 r0, .int .i64 q0, .int .i64 r1, .int .i64 q1, .int .i64 a, .int .i64 b, .slice A m1 c, .int .i64 a2, .int .i64 b2, .slice A2 m2 c2] 100)).cell? ⟨w.heap.size + 1, 6, none⟩ = some (.slice A m1 c) := (BA.out _ D0).cell 6; have k7 : ((w.alloc (.cells (cellsB root).toArray 24)).alloc (.cells #[.int .i64 r0, .int .i64 q0, .int .i64 r1, .int .i64 q1, .int .i64 a, .int .i64 b, .slice A m1 c, .int .i64 a2, .int .i64 b2, .slice A2 m2 c2] 100)).cell? ⟨w.heap.size + 1, 7, none⟩ = some (.int .i64 a2) := (BA.out _ D0).cell 7; have k8 : ((w.alloc (.cells (cellsB root).toArray 24)).alloc (.cells #[.int .i64 r0, .int .i64 q0, .int .i64 r1, .int .i64 q1, .int .i64 a, .int .i64 b, .slice A m1 c, .int .i64 a2, .int .i64 b2, .slice A2 m2 c2] 100)).cell? ⟨w.heap.size + 1, 8, none⟩ = some (.int .i64 b2) := (BA.out _ D0).cell 8; have k9 : ((w.alloc (.cells (cellsB root).toArray 24)).alloc (.cells #[.int .i64 r0, .int .i64 q0, .int .i64 r1, .int .i64 q1, .int .i64 a, .int .i64 b, .slice A m1 c, .int .i64 a2, .int .i64 b2, .slice A2 m2 c2] 100)).cell? ⟨w.heap.size + 1, 9, none⟩ = some (.slice A2 m2 c2) := (BA.out _ D0).cell 9
      go_enter Tryz.func54, Tryz.ntmps54
      go_wp2_with (first
        | (go_at_call 116; (with_reducible refine (HE0.out _).mono ?_); rintro e w1 ⟨rfl, hb1⟩; clear k0 k1 k2 k3 k4 k5 k6 k7 k8 k9; have D1 := bel_on D0 hb1; clear hb1; have Q1 := BA.out _ D1; have k0 : w1.cell? ⟨w.heap.size + 1, 0, none⟩ = some (.int .i64 r0) := Q1.cell 0; have k1 : w1.cell? ⟨w.heap.size + 1, 1, none⟩ = some (.int .i64 q0) := Q1.cell 1; have k2 : w1.cell? ⟨w.heap.size + 1, 2, none⟩ = some (.int .i64 r1) := Q1.cell 2; have k3 : w1.cell? ⟨w.heap.size + 1, 3, none⟩ = some (.int .i64 q1) := Q1.cell 3; have k4 : w1.cell? ⟨w.heap.size + 1, 4, none⟩ = some (.int .i64 a) := Q1.cell 4; have k5 : w1.cell? ⟨w.heap.size + 1, 5, none⟩ = some (.int .i64 b) := Q1.cell 5; have k6 : w1.cell? ⟨w.heap.size + 1, 6, none⟩ = some (.slice A m1 c) := Q1.cell 6; have k7 : w1.cell? ⟨w.heap.size + 1, 7, none⟩ = some (.int .i64 a2) := Q1.cell 7; have k8 : w1.cell? ⟨w.heap.size + 1, 8, none⟩ = some (.int .i64 b2) := Q1.cell 8; have k9 : w1.cell? ⟨w.heap.size + 1, 9, none⟩ = some (.slice A2 m2 c2) := Q1.cell 9; clear Q1)
        | (go_at_call 116; (with_reducible refine (HE1.out _).mono ?_); rintro e w2 ⟨rfl, hb2⟩; clear k0 k1 k2 k3 k4 k5 k6 k7 k8 k9; have D2 := bel_on D1 hb2; clear hb2; have Q2 := BA.out _ D2; have k0 : w2.cell? ⟨w.heap.size + 1, 0, none⟩ = some (.int .i64 r0) := Q2.cell 0; have k1 : w2.cell? ⟨w.heap.size + 1, 1, none⟩ = some (.int .i64 q0) := Q2.cell 1; have k2 : w2.cell? ⟨w.heap.size + 1, 2, none⟩ = some (.int .i64 r1) := Q2.cell 2; have k3 : w2.cell? ⟨w.heap.size + 1, 3, none⟩ = some (.int .i64 q1) := Q2.cell 3; have k4 : w2.cell? ⟨w.heap.size + 1, 4, none⟩ = some (.int .i64 a) := Q2.cell 4; have k5 : w2.cell? ⟨w.heap.size + 1, 5, none⟩ = some (.int .i64 b) := Q2.cell 5; have k6 : w2.cell? ⟨w.heap.size + 1, 6, none⟩ = some (.slice A m1 c) := Q2.cell 6; have k7 : w2.cell? ⟨w.heap.size + 1, 7, none⟩ = some (.int .i64 a2) := Q2.cell 7; have k8 : w2.cell? ⟨w.heap.size + 1, 8, none⟩ = some (.int .i64 b2) := Q2.cell 8; have k9 : w2.cell? ⟨w.heap.size + 1, 9, none⟩ = some (.slice A2 m2 c2) := Q2.cell 9; clear Q2))
      go_ret2
      rw [HS.out]
      exact ⟨rfl, bel_on b0 D2⟩
    | true =>
      cases x2 : fitsB a b m1 with
      | false =>
        rw [x0] at HE0; rw [x1] at HE1; rw [x2] at HF0
        clear hv x0 x1 x2
        have k0 : ((w.alloc (.cells (cellsB root).toArray 24)).alloc (.cells #[.int .i64 r0, .int .i64 q0, .int .i64 r1, .int .i64 q1, .int .i64 a, .int .i64 b, .slice A m1 c, .int .i64 a2, .int .i64 b2, .slice A2 m2 c2] 100)).cell? ⟨w.heap.size + 1, 0, none⟩ = some (.int .i64 r0) := (BA.out _ D0).cell 0; have k1 : ((w.alloc (.cells (cellsB root).toArray 24)).alloc (.cells #[.int .i64 r0, .int .i64 q0, .int .i64 r1, .int .i64 q1, .int .i64 a, .int .i64 b, .slice A m1 c, .int .i64 a2, .int .i64 b2, .slice A2 m2 c2] 100)).cell? ⟨w.heap.size + 1, 1, none⟩ = some (.int .i64 q0) := (BA.out _ D0).cell 1; have k2 : ((w.alloc (.cells (cellsB root).toArray 24)).alloc (.cells #[.int .i64 r0, .int .i64 q0, .int .i64 r1, .int .i64 q1, .int .i64 a, .int .i64 b, .slice A m1 c, .int .i64 a2, .int .i64 b2, .slice A2 m2 c2] 100)).cell? ⟨w.heap.size + 1, 2, none⟩ = some (.int .i64 r1) := (BA.out _ D0).cell 2; have k3 : ((w.alloc (.cells (cellsB root).toArray 24)).alloc (.cells #[.int .i64 r0, .int .i64 q0, .int .i64 r1, .int .i64 q1, .int .i64 a, .int .i64 b, .slice A m1 c, .int .i64 a2, .int .i64 b2, .slice A2 m2 c2] 100)).cell? ⟨w.heap.size + 1, 3, none⟩ = some (.int .i64 q1) := (BA.out _ D0).cell 3; have k4 : ((w.alloc (.cells (cellsB root).toArray 24)).alloc (.cells #[.int .i64 r0, .int .i64 q0, .int .i64 r1, .int .i64 q1, .int .i64 a, .int .i64 b, .slice A m1 c, .int .i64 a2, .int .i64 b2, .slice A2 m2 c2] 100)).cell? ⟨w.heap.size + 1, 4, none⟩ = some (.int .i64 a) := (BA.out _ D0).cell 4; have k5 : ((w.alloc (.cells (cellsB root).toArray 24)).alloc (.cells #[.int .i64 r0, .int .i64 q0, .int .i64 r1, .int .i64 q1, .int .i64 a, .int .i64 b, .slice A m1 c, .int .i64 a2, .int .i64 b2, .slice A2 m2 c2] 100)).cell? ⟨w.heap.size + 1, 5, none⟩ = some (.int .i64 b) := (BA.out _ D0).cell 5; have k6 : ((w.alloc (.cells (cellsB root).toArray 24)).alloc (.cells #[.int .i64 r0, .int .i64 q0, .int .i64 r1, .int .i64 q1, .int .i64 a, .int .i64 b, .slice A m1 c, .int .i64 a2, .int .i64 b2, .slice A2 m2 c2] 100)).cell? ⟨w.heap.size + 1, 6, none⟩ = some (.slice A m1 c) := (BA.out _ D0).cell 6; have k7 : ((w.alloc (.cells (cellsB root).toArray 24)).alloc (.cells #[.int .i64 r0, .int .i64 q0, .int .i64 r1, .int .i64 q1, .int .i64 a, .int .i64 b, .slice A m1 c, .int .i64 a2, .int .i64 b2, .slice A2 m2 c2] 100)).cell? ⟨w.heap.size + 1, 7, none⟩ = some (.int .i64 a2) := (BA.out _ D0).cell 7; have k8 : ((w.alloc (.cells (cellsB root).toArray 24)).alloc (.cells #[.int .i64 r0, .int .i64 q0, .int .i64 r1, .int .i64 q1, .int .i64 a, .int .i64 b, .slice A m1 c, .int .i64 a2, .int .i64 b2, .slice A2 m2 c2] 100)).cell? ⟨w.heap.size + 1, 8, none⟩ = some (.int .i64 b2) := (BA.out _ D0).cell 8; have k9 : ((w.alloc (.cells (cellsB root).toArray 24)).alloc (.cells #[.int .i64 r0, .int .i64 q0, .int .i64 r1, .int .i64 q1, .int .i64 a, .int .i64 b, .slice A m1 c, .int .i64 a2, .int .i64 b2, .slice A2 m2 c2] 100)).cell? ⟨w.heap.size + 1, 9, none⟩ = some (.slice A2 m2 c2) := (BA.out _ D0).cell 9
        go_enter Tryz.func54, Tryz.ntmps54
        go_wp2_with (first
          | (go_at_call 116; (with_reducible refine (HE0.out _).mono ?_); rintro e w1 ⟨rfl, hb1⟩; clear k0 k1 k2 k3 k4 k5 k6 k7 k8 k9; have D1 := bel_on D0 hb1; clear hb1; have Q1 := BA.out _ D1; have k0 : w1.cell? ⟨w.heap.size + 1, 0, none⟩ = some (.int .i64 r0) := Q1.cell 0; have k1 : w1.cell? ⟨w.heap.size + 1, 1, none⟩ = some (.int .i64 q0) := Q1.cell 1; have k2 : w1.cell? ⟨w.heap.size + 1, 2, none⟩ = some (.int .i64 r1) := Q1.cell 2; have k3 : w1.cell? ⟨w.heap.size + 1, 3, none⟩ = some (.int .i64 q1) := Q1.cell 3; have k4 : w1.cell? ⟨w.heap.size + 1, 4, none⟩ = some (.int .i64 a) := Q1.cell 4; have k5 : w1.cell? ⟨w.heap.size + 1, 5, none⟩ = some (.int .i64 b) := Q1.cell 5; have k6 : w1.cell? ⟨w.heap.size + 1, 6, none⟩ = some (.slice A m1 c) := Q1.cell 6; have k7 : w1.cell? ⟨w.heap.size + 1, 7, none⟩ = some (.int .i64 a2) := Q1.cell 7; have k8 : w1.cell? ⟨w.heap.size + 1, 8, none⟩ = some (.int .i64 b2) := Q1.cell 8; have k9 : w1.cell? ⟨w.heap.size + 1, 9, none⟩ = some (.slice A2 m2 c2) := Q1.cell 9; clear Q1)
          | (go_at_call 116; (with_reducible refine (HE1.out _).mono ?_); rintro e w2 ⟨rfl, hb2⟩; clear k0 k1 k2 k3 k4 k5 k6 k7 k8 k9; have D2 := bel_on D1 hb2; clear hb2; have Q2 := BA.out _ D2; have k0 : w2.cell? ⟨w.heap.size + 1, 0, none⟩ = some (.int .i64 r0) := Q2.cell 0; have k1 : w2.cell? ⟨w.heap.size + 1, 1, none⟩ = some (.int .i64 q0) := Q2.cell 1; have k2 : w2.cell? ⟨w.heap.size + 1, 2, none⟩ = some (.int .i64 r1) := Q2.cell 2; have k3 : w2.cell? ⟨w.heap.size + 1, 3, none⟩ = some (.int .i64 q1) := Q2.cell 3; have k4 : w2.cell? ⟨w.heap.size + 1, 4, none⟩ = some (.int .i64 a) := Q2.cell 4; have k5 : w2.cell? ⟨w.heap.size + 1, 5, none⟩ = some (.int .i64 b) := Q2.cell 5; have k6 : w2.cell? ⟨w.heap.size + 1, 6, none⟩ = some (.slice A m1 c) := Q2.cell 6; have k7 : w2.cell? ⟨w.heap.size + 1, 7, none⟩ = some (.int .i64 a2) := Q2.cell 7; have k8 : w2.cell? ⟨w.heap.size + 1, 8, none⟩ = some (.int .i64 b2) := Q2.cell 8; have k9 : w2.cell? ⟨w.heap.size + 1, 9, none⟩ = some (.slice A2 m2 c2) := Q2.cell 9; clear Q2)
          | (go_at_call 73; (with_reducible refine (HF0.out _).mono ?_); rintro e w3 ⟨rfl, hb3⟩; clear k0 k1 k2 k3 k4 k5 k6 k7 k8 k9; have D3 := bel_on D2 hb3; clear hb3; have Q3 := BA.out _ D3; have k0 : w3.cell? ⟨w.heap.size + 1, 0, none⟩ = some (.int .i64 r0) := Q3.cell 0; have k1 : w3.cell? ⟨w.heap.size + 1, 1, none⟩ = some (.int .i64 q0) := Q3.cell 1; have k2 : w3.cell? ⟨w.heap.size + 1, 2, none⟩ = some (.int .i64 r1) := Q3.cell 2; have k3 : w3.cell? ⟨w.heap.size + 1, 3, none⟩ = some (.int .i64 q1) := Q3.cell 3; have k4 : w3.cell? ⟨w.heap.size + 1, 4, none⟩ = some (.int .i64 a) := Q3.cell 4; have k5 : w3.cell? ⟨w.heap.size + 1, 5, none⟩ = some (.int .i64 b) := Q3.cell 5; have k6 : w3.cell? ⟨w.heap.size + 1, 6, none⟩ = some (.slice A m1 c) := Q3.cell 6; have k7 : w3.cell? ⟨w.heap.size + 1, 7, none⟩ = some (.int .i64 a2) := Q3.cell 7; have k8 : w3.cell? ⟨w.heap.size + 1, 8, none⟩ = some (.int .i64 b2) := Q3.cell 8; have k9 : w3.cell? ⟨w.heap.size + 1, 9, none⟩ = some (.slice A2 m2 c2) := Q3.cell 9; clear Q3))
        go_ret2
        rw [HS.out]
        exact ⟨rfl, bel_on b0 D3⟩
      | true =>
        cases x3 : fitsB a2 b2 m2 with
        | false =>
          rw [x0] at HE0; rw [x1] at HE1; rw [x2] at HF0; rw [x3] at HF1
          clear hv x0 x1 x2 x3
          have k0 : ((w.alloc (.cells (cellsB root).toArray 24)).alloc (.cells #[.int .i64 r0, .int .i64 q0, .int .i64 r1, .int .i64 q1, .int .i64 a, .int .i64 b, .slice A m1 c, .int .i64 a2, .int .i64 b2, .slice A2 m2 c2] 100)).cell? ⟨w.heap.size + 1, 0, none⟩ = some (.int .i64 r0) := (BA.out _ D0).cell 0; have k1 : ((w.alloc (.cells (cellsB root).toArray 24)).alloc (.cells #[.int .i64 r0, .int .i64 q0, .int .i64 r1, .int .i64 q1, .int .i64 a, .int .i64 b, .slice A m1 c, .int .i64 a2, .int .i64 b2, .slice A2 m2 c2] 100)).cell? ⟨w.heap.size + 1, 1, none⟩ = some (.int .i64 q0) := (BA.out _ D0).cell 1; have k2 : ((w.alloc (.cells (cellsB root).toArray 24)).alloc (.cells #[.int .i64 r0, .int .i64 q0, .int .i64 r1, .int .i64 q1, .int .i64 a, .int .i64 b, .slice A m1 c, .int .i64 a2, .int .i64 b2, .slice A2 m2 c2] 100)).cell? ⟨w.heap.size + 1, 2, none⟩ = some (.int .i64 r1) := (BA.out _ D0).cell 2; have k3 : ((w.alloc (.cells (cellsB root).toArray 24)).alloc (.cells #[.int .i64 r0, .int .i64 q0, .int .i64 r1, .int .i64 q1, .int .i64 a, .int .i64 b, .slice A m1 c, .int .i64 a2, .int .i64 b2, .slice A2 m2 c2] 100)).cell? ⟨w.heap.size + 1, 3, none⟩ = some (.int .i64 q1) := (BA.out _ D0).cell 3; have k4 : ((w.alloc (.cells (cellsB root).toArray 24)).alloc (.cells #[.int .i64 r0, .int .i64 q0, .int .i64 r1, .int .i64 q1, .int .i64 a, .int .i64 b, .slice A m1 c, .int .i64 a2, .int .i64 b2, .slice A2 m2 c2] 100)).cell? ⟨w.heap.size + 1, 4, none⟩ = some (.int .i64 a) := (BA.out _ D0).cell 4; have k5 : ((w.alloc (.cells (cellsB root).toArray 24)).alloc (.cells #[.int .i64 r0, .int .i64 q0, .int .i64 r1, .int .i64 q1, .int .i64 a, .int .i64 b, .slice A m1 c, .int .i64 a2, .int .i64 b2, .slice A2 m2 c2] 100)).cell? ⟨w.heap.size + 1, 5, none⟩ = some (.int .i64 b) := (BA.out _ D0).cell 5; have k6 : ((w.alloc (.cells (cellsB root).toArray 24)).alloc (.cells #[.int .i64 r0, .int .i64 q0, .int .i64 r1, .int .i64 q1, .int .i64 a, .int .i64 b, .slice A m1 c, .int .i64 a2, .int .i64 b2, .slice A2 m2 c2] 100)).cell? ⟨w.heap.size + 1, 6, none⟩ = some (.slice A m1 c) := (BA.out _ D0).cell 6; have k7 : ((w.alloc (.cells (cellsB root).toArray 24)).alloc (.cells #[.int .i64 r0, .int .i64 q0, .int .i64 r1, .int .i64 q1, .int .i64 a, .int .i64 b, .slice A m1 c, .int .i64 a2, .int .i64 b2, .slice A2 m2 c2] 100)).cell? ⟨w.heap.size + 1, 7, none⟩ = some (.int .i64 a2) := (BA.out _ D0).cell 7; have k8 : ((w.alloc (.cells (cellsB root).toArray 24)).alloc (.cells #[.int .i64 r0, .int .i64 q0, .int .i64 r1, .int .i64 q1, .int .i64 a, .int .i64 b, .slice A m1 c, .int .i64 a2, .int .i64 b2, .slice A2 m2 c2] 100)).cell? ⟨w.heap.size + 1, 8, none⟩ = some (.int .i64 b2) := (BA.out _ D0).cell 8; have k9 : ((w.alloc (.cells (cellsB root).toArray 24)).alloc (.cells #[.int .i64 r0, .int .i64 q0, .int .i64 r1, .int .i64 q1, .int .i64 a, .int .i64 b, .slice A m1 c, .int .i64 a2, .int .i64 b2, .slice A2 m2 c2] 100)).cell? ⟨w.heap.size + 1, 9, none⟩ = some (.slice A2 m2 c2) := (BA.out _ D0).cell 9
          go_enter Tryz.func54, Tryz.ntmps54
          go_wp2_with (first
            | (go_at_call 116; (with_reducible refine (HE0.out _).mono ?_); rintro e w1 ⟨rfl, hb1⟩; clear k0 k1 k2 k3 k4 k5 k6 k7 k8 k9; have D1 := bel_on D0 hb1; clear hb1; have Q1 := BA.out _ D1; have k0 : w1.cell? ⟨w.heap.size + 1, 0, none⟩ = some (.int .i64 r0) := Q1.cell 0; have k1 : w1.cell? ⟨w.heap.size + 1, 1, none⟩ = some (.int .i64 q0) := Q1.cell 1; have k2 : w1.cell? ⟨w.heap.size + 1, 2, none⟩ = some (.int .i64 r1) := Q1.cell 2; have k3 : w1.cell? ⟨w.heap.size + 1, 3, none⟩ = some (.int .i64 q1) := Q1.cell 3; have k4 : w1.cell? ⟨w.heap.size + 1, 4, none⟩ = some (.int .i64 a) := Q1.cell 4; have k5 : w1.cell? ⟨w.heap.size + 1, 5, none⟩ = some (.int .i64 b) := Q1.cell 5; have k6 : w1.cell? ⟨w.heap.size + 1, 6, none⟩ = some (.slice A m1 c) := Q1.cell 6; have k7 : w1.cell? ⟨w.heap.size + 1, 7, none⟩ = some (.int .i64 a2) := Q1.cell 7; have k8 : w1.cell? ⟨w.heap.size + 1, 8, none⟩ = some (.int .i64 b2) := Q1.cell 8; have k9 : w1.cell? ⟨w.heap.size + 1, 9, none⟩ = some (.slice A2 m2 c2) := Q1.cell 9; clear Q1)
            | (go_at_call 116; (with_reducible refine (HE1.out _).mono ?_); rintro e w2 ⟨rfl, hb2⟩; clear k0 k1 k2 k3 k4 k5 k6 k7 k8 k9; have D2 := bel_on D1 hb2; clear hb2; have Q2 := BA.out _ D2; have k0 : w2.cell? ⟨w.heap.size + 1, 0, none⟩ = some (.int .i64 r0) := Q2.cell 0; have k1 : w2.cell? ⟨w.heap.size + 1, 1, none⟩ = some (.int .i64 q0) := Q2.cell 1; have k2 : w2.cell? ⟨w.heap.size + 1, 2, none⟩ = some (.int .i64 r1) := Q2.cell 2; have k3 : w2.cell? ⟨w.heap.size + 1, 3, none⟩ = some (.int .i64 q1) := Q2.cell 3; have k4 : w2.cell? ⟨w.heap.size + 1, 4, none⟩ = some (.int .i64 a) := Q2.cell 4; have k5 : w2.cell? ⟨w.heap.size + 1, 5, none⟩ = some (.int .i64 b) := Q2.cell 5; have k6 : w2.cell? ⟨w.heap.size + 1, 6, none⟩ = some (.slice A m1 c) := Q2.cell 6; have k7 : w2.cell? ⟨w.heap.size + 1, 7, none⟩ = some (.int .i64 a2) := Q2.cell 7; have k8 : w2.cell? ⟨w.heap.size + 1, 8, none⟩ = some (.int .i64 b2) := Q2.cell 8; have k9 : w2.cell? ⟨w.heap.size + 1, 9, none⟩ = some (.slice A2 m2 c2) := Q2.cell 9; clear Q2)
            | (go_at_call 73; (with_reducible refine (HF0.out _).mono ?_); rintro e w3 ⟨rfl, hb3⟩; clear k0 k1 k2 k3 k4 k5 k6 k7 k8 k9; have D3 := bel_on D2 hb3; clear hb3; have Q3 := BA.out _ D3; have k0 : w3.cell? ⟨w.heap.size + 1, 0, none⟩ = some (.int .i64 r0) := Q3.cell 0; have k1 : w3.cell? ⟨w.heap.size + 1, 1, none⟩ = some (.int .i64 q0) := Q3.cell 1; have k2 : w3.cell? ⟨w.heap.size + 1, 2, none⟩ = some (.int .i64 r1) := Q3.cell 2; have k3 : w3.cell? ⟨w.heap.size + 1, 3, none⟩ = some (.int .i64 q1) := Q3.cell 3; have k4 : w3.cell? ⟨w.heap.size + 1, 4, none⟩ = some (.int .i64 a) := Q3.cell 4; have k5 : w3.cell? ⟨w.heap.size + 1, 5, none⟩ = some (.int .i64 b) := Q3.cell 5; have k6 : w3.cell? ⟨w.heap.size + 1, 6, none⟩ = some (.slice A m1 c) := Q3.cell 6; have k7 : w3.cell? ⟨w.heap.size + 1, 7, none⟩ = some (.int .i64 a2) := Q3.cell 7; have k8 : w3.cell? ⟨w.heap.size + 1, 8, none⟩ = some (.int .i64 b2) := Q3.cell 8; have k9 : w3.cell? ⟨w.heap.size + 1, 9, none⟩ = some (.slice A2 m2 c2) := Q3.cell 9; clear Q3)
            | (go_at_call 73; (with_reducible refine (HF1.out _).mono ?_); rintro e w4 ⟨rfl, hb4⟩; clear k0 k1 k2 k3 k4 k5 k6 k7 k8 k9; have D4 := bel_on D3 hb4; clear hb4; have Q4 := BA.out _ D4; have k0 : w4.cell? ⟨w.heap.size + 1, 0, none⟩ = some (.int .i64 r0) := Q4.cell 0; have k1 : w4.cell? ⟨w.heap.size + 1, 1, none⟩ = some (.int .i64 q0) := Q4.cell 1; have k2 : w4.cell? ⟨w.heap.size + 1, 2, none⟩ = some (.int .i64 r1) := Q4.cell 2; have k3 : w4.cell? ⟨w.heap.size + 1, 3, none⟩ = some (.int .i64 q1) := Q4.cell 3; have k4 : w4.cell? ⟨w.heap.size + 1, 4, none⟩ = some (.int .i64 a) := Q4.cell 4; have k5 : w4.cell? ⟨w.heap.size + 1, 5, none⟩ = some (.int .i64 b) := Q4.cell 5; have k6 : w4.cell? ⟨w.heap.size + 1, 6, none⟩ = some (.slice A m1 c) := Q4.cell 6; have k7 : w4.cell? ⟨w.heap.size + 1, 7, none⟩ = some (.int .i64 a2) := Q4.cell 7; have k8 : w4.cell? ⟨w.heap.size + 1, 8, none⟩ = some (.int .i64 b2) := Q4.cell 8; have k9 : w4.cell? ⟨w.heap.size + 1, 9, none⟩ = some (.slice A2 m2 c2) := Q4.cell 9; clear Q4))
          go_ret2
          rw [HS.out]
          exact ⟨rfl, bel_on b0 D4⟩
        | true =>
          rw [x0, x1, x2, x3] at hv
          cases hv

set_option maxHeartbeats 16000000 in
set_option maxRecDepth 100000 in
theorem voff_far (root : List UInt8) (u r0 q0 r1 q1 a b a2 b2 : Int) (P R : List (List UInt8)) (A A2 : Option Addr) (c c2 : Nat) (w : World) {m1 m2 : Nat} (hr : root.length = 16) (hm1 : P.length = m1) (hm2 : R.length = m2) (h : KR w A c P) (h2 : KR w A2 c2 R) (h3 : 0 ≤ u) (h4 : u < 64) (hv : okV (r0, q0) (r1, q1) a b m1 a2 b2 m2 = true) (hn : nearB (r0, q0) (r1, q1) u a b a2 b2 = false) :
    Calls Tryz.prog 54 #[.agg (cellsB root).toArray, .int .i64 u, .agg #[.int .i64 r0, .int .i64 q0, .int .i64 r1, .int .i64 q1, .int .i64 a, .int .i64 b, .slice A m1 c, .int .i64 a2, .int .i64 b2, .slice A2 m2 c2]] w fun e w' => e = .returned (.tuple #[.bool (voS root u (r0, q0) (r1, q1) a b P a2 b2 R).1, .int .i64 (voS root u (r0, q0) (r1, q1) a b P a2 b2 R).2]) ∧ Below w.heap.size w w' := by
  have b0 := alloc2_bel w (.cells (cellsB root).toArray 24) (.cells #[.int .i64 r0, .int .i64 q0, .int .i64 r1, .int .i64 q1, .int .i64 a, .int .i64 b, .slice A m1 c, .int .i64 a2, .int .i64 b2, .slice A2 m2 c2] 100)
  have hml1 := h.len
  have hml2 := h2.len
  have BA : Hid (∀ W, Below ((w.alloc (.cells (cellsB root).toArray 24)).alloc (.cells #[.int .i64 r0, .int .i64 q0, .int .i64 r1, .int .i64 q1, .int .i64 a, .int .i64 b, .slice A m1 c, .int .i64 a2, .int .i64 b2, .slice A2 m2 c2] 100)).heap.size ((w.alloc (.cells (cellsB root).toArray 24)).alloc (.cells #[.int .i64 r0, .int .i64 q0, .int .i64 r1, .int .i64 q1, .int .i64 a, .int .i64 b, .slice A m1 c, .int .i64 a2, .int .i64 b2, .slice A2 m2 c2] 100)) W → Blk W (w.heap.size + 1) 100 #[.int .i64 r0, .int .i64 q0, .int .i64 r1, .int .i64 q1, .int .i64 a, .int .i64 b, .slice A m1 c, .int .i64 a2, .int .i64 b2, .slice A2 m2 c2]) := fun W hW => (blk_b1 w (.cells (cellsB root).toArray 24) #[.int .i64 r0, .int .i64 q0, .int .i64 r1, .int .i64 q1, .int .i64 a, .int .i64 b, .slice A m1 c, .int .i64 a2, .int .i64 b2, .slice A2 m2 c2] 100).below' hW
  have BR : Hid (∀ W, Below ((w.alloc (.cells (cellsB root).toArray 24)).alloc (.cells #[.int .i64 r0, .int .i64 q0, .int .i64 r1, .int .i64 q1, .int .i64 a, .int .i64 b, .slice A m1 c, .int .i64 a2, .int .i64 b2, .slice A2 m2 c2] 100)).heap.size ((w.alloc (.cells (cellsB root).toArray 24)).alloc (.cells #[.int .i64 r0, .int .i64 q0, .int .i64 r1, .int .i64 q1, .int .i64 a, .int .i64 b, .slice A m1 c, .int .i64 a2, .int .i64 b2, .slice A2 m2 c2] 100)) W → Blk W w.heap.size 24 (cellsB root).toArray) := fun W hW => (blk_b0 w (cellsB root).toArray 24 (.cells #[.int .i64 r0, .int .i64 q0, .int .i64 r1, .int .i64 q1, .int .i64 a, .int .i64 b, .slice A m1 c, .int .i64 a2, .int .i64 b2, .slice A2 m2 c2] 100)).below' hW
  have D0 : Below ((w.alloc (.cells (cellsB root).toArray 24)).alloc (.cells #[.int .i64 r0, .int .i64 q0, .int .i64 r1, .int .i64 q1, .int .i64 a, .int .i64 b, .slice A m1 c, .int .i64 a2, .int .i64 b2, .slice A2 m2 c2] 100)).heap.size ((w.alloc (.cells (cellsB root).toArray 24)).alloc (.cells #[.int .i64 r0, .int .i64 q0, .int .i64 r1, .int .i64 q1, .int .i64 a, .int .i64 b, .slice A m1 c, .int .i64 a2, .int .i64 b2, .slice A2 m2 c2] 100)) ((w.alloc (.cells (cellsB root).toArray 24)).alloc (.cells #[.int .i64 r0, .int .i64 q0, .int .i64 r1, .int .i64 q1, .int .i64 a, .int .i64 b, .slice A m1 c, .int .i64 a2, .int .i64 b2, .slice A2 m2 c2] 100)) := Below.refl _ _
  have HE0 : Hid (∀ W, Calls Tryz.prog 116 #[.agg #[.int .i64 r0, .int .i64 q0]] W fun e w' => e = .returned (.bool (isE (r0, q0))) ∧ Below W.heap.size W w') := fun W => isEntry_any r0 q0 W
  have HE1 : Hid (∀ W, Calls Tryz.prog 116 #[.agg #[.int .i64 r1, .int .i64 q1]] W fun e w' => e = .returned (.bool (isE (r1, q1))) ∧ Below W.heap.size W w') := fun W => isEntry_any r1 q1 W
  have HF0 : Hid (∀ W, Calls Tryz.prog 73 #[.agg #[.int .i64 a, .int .i64 b, .slice A m1 c]] W fun e w' => e = .returned (.bool (fitsB a b m1)) ∧ Below W.heap.size W w') := fun W => fits_any a b A m1 c W (by omega)
  have HF1 : Hid (∀ W, Calls Tryz.prog 73 #[.agg #[.int .i64 a2, .int .i64 b2, .slice A2 m2 c2]] W fun e w' => e = .returned (.bool (fitsB a2 b2 m2)) ∧ Below W.heap.size W w') := fun W => fits_any a2 b2 A2 m2 c2 W (by omega)
  have HS : Hid (voS root u (r0, q0) (r1, q1) a b P a2 b2 R = (false, 0)) := by unfold Hid voS; rw [if_neg (by omega), hm1, hm2, if_neg (by rw [hv]; simp), hn]; rfl
  obtain ⟨g1, g2, g3⟩ := okV_b hv
  have ew : IntKind.i64.wrap (b + 1) = b + 1 := by rw [IntKind.wrap_i64]; omega
  have s0 : decide (u < 0) = false := by simp; omega
  have s1 : decide (64 ≤ u) = false := by simp; omega
  obtain ⟨x0, x1, x2, x3⟩ := okV_iff.1 hv
  rw [x0] at HE0
  rw [x1] at HE1
  rw [x2] at HF0
  rw [x3] at HF1
  have k0 : ((w.alloc (.cells (cellsB root).toArray 24)).alloc (.cells #[.int .i64 r0, .int .i64 q0, .int .i64 r1, .int .i64 q1, .int .i64 a, .int .i64 b, .slice A m1 c, .int .i64 a2, .int .i64 b2, .slice A2 m2 c2] 100)).cell? ⟨w.heap.size + 1, 0, none⟩ = some (.int .i64 r0) := (BA.out _ D0).cell 0; have k1 : ((w.alloc (.cells (cellsB root).toArray 24)).alloc (.cells #[.int .i64 r0, .int .i64 q0, .int .i64 r1, .int .i64 q1, .int .i64 a, .int .i64 b, .slice A m1 c, .int .i64 a2, .int .i64 b2, .slice A2 m2 c2] 100)).cell? ⟨w.heap.size + 1, 1, none⟩ = some (.int .i64 q0) := (BA.out _ D0).cell 1; have k2 : ((w.alloc (.cells (cellsB root).toArray 24)).alloc (.cells #[.int .i64 r0, .int .i64 q0, .int .i64 r1, .int .i64 q1, .int .i64 a, .int .i64 b, .slice A m1 c, .int .i64 a2, .int .i64 b2, .slice A2 m2 c2] 100)).cell? ⟨w.heap.size + 1, 2, none⟩ = some (.int .i64 r1) := (BA.out _ D0).cell 2; have k3 : ((w.alloc (.cells (cellsB root).toArray 24)).alloc (.cells #[.int .i64 r0, .int .i64 q0, .int .i64 r1, .int .i64 q1, .int .i64 a, .int .i64 b, .slice A m1 c, .int .i64 a2, .int .i64 b2, .slice A2 m2 c2] 100)).cell? ⟨w.heap.size + 1, 3, none⟩ = some (.int .i64 q1) := (BA.out _ D0).cell 3; have k4 : ((w.alloc (.cells (cellsB root).toArray 24)).alloc (.cells #[.int .i64 r0, .int .i64 q0, .int .i64 r1, .int .i64 q1, .int .i64 a, .int .i64 b, .slice A m1 c, .int .i64 a2, .int .i64 b2, .slice A2 m2 c2] 100)).cell? ⟨w.heap.size + 1, 4, none⟩ = some (.int .i64 a) := (BA.out _ D0).cell 4; have k5 : ((w.alloc (.cells (cellsB root).toArray 24)).alloc (.cells #[.int .i64 r0, .int .i64 q0, .int .i64 r1, .int .i64 q1, .int .i64 a, .int .i64 b, .slice A m1 c, .int .i64 a2, .int .i64 b2, .slice A2 m2 c2] 100)).cell? ⟨w.heap.size + 1, 5, none⟩ = some (.int .i64 b) := (BA.out _ D0).cell 5; have k6 : ((w.alloc (.cells (cellsB root).toArray 24)).alloc (.cells #[.int .i64 r0, .int .i64 q0, .int .i64 r1, .int .i64 q1, .int .i64 a, .int .i64 b, .slice A m1 c, .int .i64 a2, .int .i64 b2, .slice A2 m2 c2] 100)).cell? ⟨w.heap.size + 1, 6, none⟩ = some (.slice A m1 c) := (BA.out _ D0).cell 6; have k7 : ((w.alloc (.cells (cellsB root).toArray 24)).alloc (.cells #[.int .i64 r0, .int .i64 q0, .int .i64 r1, .int .i64 q1, .int .i64 a, .int .i64 b, .slice A m1 c, .int .i64 a2, .int .i64 b2, .slice A2 m2 c2] 100)).cell? ⟨w.heap.size + 1, 7, none⟩ = some (.int .i64 a2) := (BA.out _ D0).cell 7; have k8 : ((w.alloc (.cells (cellsB root).toArray 24)).alloc (.cells #[.int .i64 r0, .int .i64 q0, .int .i64 r1, .int .i64 q1, .int .i64 a, .int .i64 b, .slice A m1 c, .int .i64 a2, .int .i64 b2, .slice A2 m2 c2] 100)).cell? ⟨w.heap.size + 1, 8, none⟩ = some (.int .i64 b2) := (BA.out _ D0).cell 8; have k9 : ((w.alloc (.cells (cellsB root).toArray 24)).alloc (.cells #[.int .i64 r0, .int .i64 q0, .int .i64 r1, .int .i64 q1, .int .i64 a, .int .i64 b, .slice A m1 c, .int .i64 a2, .int .i64 b2, .slice A2 m2 c2] 100)).cell? ⟨w.heap.size + 1, 9, none⟩ = some (.slice A2 m2 c2) := (BA.out _ D0).cell 9
  have hways : (¬ r0 < u ∧ ¬ a = a2) ∨ (¬ r0 < u ∧ a = a2 ∧ ¬ b + 1 = b2) ∨ (¬ r0 < u ∧ a = a2 ∧ b + 1 = b2) ∨ (r0 < u ∧ ¬ u < r1 ∧ ¬ a = a2) ∨ (r0 < u ∧ ¬ u < r1 ∧ a = a2 ∧ ¬ b + 1 = b2) ∨ (r0 < u ∧ ¬ u < r1 ∧ a = a2 ∧ b + 1 = b2) ∨ (r0 < u ∧ u < r1 ∧ ¬ a = a2) ∨ (r0 < u ∧ u < r1 ∧ a = a2 ∧ ¬ b + 1 = b2) := by
    rw [← nearB_iff_not] at hn
    omega
  clear hr hm1 hm2 h h2 h3 h4 hml1 hml2 hv x0 x1 x2 x3 hn
  rcases hways with ⟨n0, m0⟩ | ⟨n0, m0, m1⟩ | ⟨n0, m0, m1⟩ | ⟨n0, n1, m0⟩ | ⟨n0, n1, m0, m1⟩ | ⟨n0, n1, m0, m1⟩ | ⟨n0, n1, m0⟩ | ⟨n0, n1, m0, m1⟩
  · have t0 : decide (r0 < u) = false := decide_eq_false n0
    have t2 : (a == a2) = false := by simp; omega
    clear n0 m0 g1 g2 g3
    go_enter Tryz.func54, Tryz.ntmps54
    go_wp2_with (first
      | (go_at_call 116; (with_reducible refine (HE0.out _).mono ?_); rintro e w1 ⟨rfl, hb1⟩; clear k0 k1 k2 k3 k4 k5 k6 k7 k8 k9; have D1 := bel_on D0 hb1; clear hb1; have Q1 := BA.out _ D1; have k0 : w1.cell? ⟨w.heap.size + 1, 0, none⟩ = some (.int .i64 r0) := Q1.cell 0; have k1 : w1.cell? ⟨w.heap.size + 1, 1, none⟩ = some (.int .i64 q0) := Q1.cell 1; have k2 : w1.cell? ⟨w.heap.size + 1, 2, none⟩ = some (.int .i64 r1) := Q1.cell 2; have k3 : w1.cell? ⟨w.heap.size + 1, 3, none⟩ = some (.int .i64 q1) := Q1.cell 3; have k4 : w1.cell? ⟨w.heap.size + 1, 4, none⟩ = some (.int .i64 a) := Q1.cell 4; have k5 : w1.cell? ⟨w.heap.size + 1, 5, none⟩ = some (.int .i64 b) := Q1.cell 5; have k6 : w1.cell? ⟨w.heap.size + 1, 6, none⟩ = some (.slice A m1 c) := Q1.cell 6; have k7 : w1.cell? ⟨w.heap.size + 1, 7, none⟩ = some (.int .i64 a2) := Q1.cell 7; have k8 : w1.cell? ⟨w.heap.size + 1, 8, none⟩ = some (.int .i64 b2) := Q1.cell 8; have k9 : w1.cell? ⟨w.heap.size + 1, 9, none⟩ = some (.slice A2 m2 c2) := Q1.cell 9; clear Q1)
      | (go_at_call 116; (with_reducible refine (HE1.out _).mono ?_); rintro e w2 ⟨rfl, hb2⟩; clear k0 k1 k2 k3 k4 k5 k6 k7 k8 k9; have D2 := bel_on D1 hb2; clear hb2; have Q2 := BA.out _ D2; have k0 : w2.cell? ⟨w.heap.size + 1, 0, none⟩ = some (.int .i64 r0) := Q2.cell 0; have k1 : w2.cell? ⟨w.heap.size + 1, 1, none⟩ = some (.int .i64 q0) := Q2.cell 1; have k2 : w2.cell? ⟨w.heap.size + 1, 2, none⟩ = some (.int .i64 r1) := Q2.cell 2; have k3 : w2.cell? ⟨w.heap.size + 1, 3, none⟩ = some (.int .i64 q1) := Q2.cell 3; have k4 : w2.cell? ⟨w.heap.size + 1, 4, none⟩ = some (.int .i64 a) := Q2.cell 4; have k5 : w2.cell? ⟨w.heap.size + 1, 5, none⟩ = some (.int .i64 b) := Q2.cell 5; have k6 : w2.cell? ⟨w.heap.size + 1, 6, none⟩ = some (.slice A m1 c) := Q2.cell 6; have k7 : w2.cell? ⟨w.heap.size + 1, 7, none⟩ = some (.int .i64 a2) := Q2.cell 7; have k8 : w2.cell? ⟨w.heap.size + 1, 8, none⟩ = some (.int .i64 b2) := Q2.cell 8; have k9 : w2.cell? ⟨w.heap.size + 1, 9, none⟩ = some (.slice A2 m2 c2) := Q2.cell 9; clear Q2)
      | (go_at_call 73; (with_reducible refine (HF0.out _).mono ?_); rintro e w3 ⟨rfl, hb3⟩; clear k0 k1 k2 k3 k4 k5 k6 k7 k8 k9; have D3 := bel_on D2 hb3; clear hb3; have Q3 := BA.out _ D3; have k0 : w3.cell? ⟨w.heap.size + 1, 0, none⟩ = some (.int .i64 r0) := Q3.cell 0; have k1 : w3.cell? ⟨w.heap.size + 1, 1, none⟩ = some (.int .i64 q0) := Q3.cell 1; have k2 : w3.cell? ⟨w.heap.size + 1, 2, none⟩ = some (.int .i64 r1) := Q3.cell 2; have k3 : w3.cell? ⟨w.heap.size + 1, 3, none⟩ = some (.int .i64 q1) := Q3.cell 3; have k4 : w3.cell? ⟨w.heap.size + 1, 4, none⟩ = some (.int .i64 a) := Q3.cell 4; have k5 : w3.cell? ⟨w.heap.size + 1, 5, none⟩ = some (.int .i64 b) := Q3.cell 5; have k6 : w3.cell? ⟨w.heap.size + 1, 6, none⟩ = some (.slice A m1 c) := Q3.cell 6; have k7 : w3.cell? ⟨w.heap.size + 1, 7, none⟩ = some (.int .i64 a2) := Q3.cell 7; have k8 : w3.cell? ⟨w.heap.size + 1, 8, none⟩ = some (.int .i64 b2) := Q3.cell 8; have k9 : w3.cell? ⟨w.heap.size + 1, 9, none⟩ = some (.slice A2 m2 c2) := Q3.cell 9; clear Q3)
      | (go_at_call 73; (with_reducible refine (HF1.out _).mono ?_); rintro e w4 ⟨rfl, hb4⟩; clear k0 k1 k2 k3 k4 k5 k6 k7 k8 k9; have D4 := bel_on D3 hb4; clear hb4; have Q4 := BA.out _ D4; have k0 : w4.cell? ⟨w.heap.size + 1, 0, none⟩ = some (.int .i64 r0) := Q4.cell 0; have k1 : w4.cell? ⟨w.heap.size + 1, 1, none⟩ = some (.int .i64 q0) := Q4.cell 1; have k2 : w4.cell? ⟨w.heap.size + 1, 2, none⟩ = some (.int .i64 r1) := Q4.cell 2; have k3 : w4.cell? ⟨w.heap.size + 1, 3, none⟩ = some (.int .i64 q1) := Q4.cell 3; have k4 : w4.cell? ⟨w.heap.size + 1, 4, none⟩ = some (.int .i64 a) := Q4.cell 4; have k5 : w4.cell? ⟨w.heap.size + 1, 5, none⟩ = some (.int .i64 b) := Q4.cell 5; have k6 : w4.cell? ⟨w.heap.size + 1, 6, none⟩ = some (.slice A m1 c) := Q4.cell 6; have k7 : w4.cell? ⟨w.heap.size + 1, 7, none⟩ = some (.int .i64 a2) := Q4.cell 7; have k8 : w4.cell? ⟨w.heap.size + 1, 8, none⟩ = some (.int .i64 b2) := Q4.cell 8; have k9 : w4.cell? ⟨w.heap.size + 1, 9, none⟩ = some (.slice A2 m2 c2) := Q4.cell 9; clear Q4))
    go_quiet (fail)
    go_wp2_with fail
    go_ret2
    rw [HS.out]
    exact ⟨rfl, below_drewN (bel_on b0 D4) _⟩
  · have t0 : decide (r0 < u) = false := decide_eq_false n0
    have t2 : (a == a2) = true := by simp; omega
    have t3 : (b + 1 == b2) = false := by simp; omega
    clear n0 m0 m1 g1 g2 g3
    go_enter Tryz.func54, Tryz.ntmps54
    go_wp2_with (first
      | (go_at_call 116; (with_reducible refine (HE0.out _).mono ?_); rintro e w1 ⟨rfl, hb1⟩; clear k0 k1 k2 k3 k4 k5 k6 k7 k8 k9; have D1 := bel_on D0 hb1; clear hb1; have Q1 := BA.out _ D1; have k0 : w1.cell? ⟨w.heap.size + 1, 0, none⟩ = some (.int .i64 r0) := Q1.cell 0; have k1 : w1.cell? ⟨w.heap.size + 1, 1, none⟩ = some (.int .i64 q0) := Q1.cell 1; have k2 : w1.cell? ⟨w.heap.size + 1, 2, none⟩ = some (.int .i64 r1) := Q1.cell 2; have k3 : w1.cell? ⟨w.heap.size + 1, 3, none⟩ = some (.int .i64 q1) := Q1.cell 3; have k4 : w1.cell? ⟨w.heap.size + 1, 4, none⟩ = some (.int .i64 a) := Q1.cell 4; have k5 : w1.cell? ⟨w.heap.size + 1, 5, none⟩ = some (.int .i64 b) := Q1.cell 5; have k6 : w1.cell? ⟨w.heap.size + 1, 6, none⟩ = some (.slice A m1 c) := Q1.cell 6; have k7 : w1.cell? ⟨w.heap.size + 1, 7, none⟩ = some (.int .i64 a2) := Q1.cell 7; have k8 : w1.cell? ⟨w.heap.size + 1, 8, none⟩ = some (.int .i64 b2) := Q1.cell 8; have k9 : w1.cell? ⟨w.heap.size + 1, 9, none⟩ = some (.slice A2 m2 c2) := Q1.cell 9; clear Q1)
      | (go_at_call 116; (with_reducible refine (HE1.out _).mono ?_); rintro e w2 ⟨rfl, hb2⟩; clear k0 k1 k2 k3 k4 k5 k6 k7 k8 k9; have D2 := bel_on D1 hb2; clear hb2; have Q2 := BA.out _ D2; have k0 : w2.cell? ⟨w.heap.size + 1, 0, none⟩ = some (.int .i64 r0) := Q2.cell 0; have k1 : w2.cell? ⟨w.heap.size + 1, 1, none⟩ = some (.int .i64 q0) := Q2.cell 1; have k2 : w2.cell? ⟨w.heap.size + 1, 2, none⟩ = some (.int .i64 r1) := Q2.cell 2; have k3 : w2.cell? ⟨w.heap.size + 1, 3, none⟩ = some (.int .i64 q1) := Q2.cell 3; have k4 : w2.cell? ⟨w.heap.size + 1, 4, none⟩ = some (.int .i64 a) := Q2.cell 4; have k5 : w2.cell? ⟨w.heap.size + 1, 5, none⟩ = some (.int .i64 b) := Q2.cell 5; have k6 : w2.cell? ⟨w.heap.size + 1, 6, none⟩ = some (.slice A m1 c) := Q2.cell 6; have k7 : w2.cell? ⟨w.heap.size + 1, 7, none⟩ = some (.int .i64 a2) := Q2.cell 7; have k8 : w2.cell? ⟨w.heap.size + 1, 8, none⟩ = some (.int .i64 b2) := Q2.cell 8; have k9 : w2.cell? ⟨w.heap.size + 1, 9, none⟩ = some (.slice A2 m2 c2) := Q2.cell 9; clear Q2)
      | (go_at_call 73; (with_reducible refine (HF0.out _).mono ?_); rintro e w3 ⟨rfl, hb3⟩; clear k0 k1 k2 k3 k4 k5 k6 k7 k8 k9; have D3 := bel_on D2 hb3; clear hb3; have Q3 := BA.out _ D3; have k0 : w3.cell? ⟨w.heap.size + 1, 0, none⟩ = some (.int .i64 r0) := Q3.cell 0; have k1 : w3.cell? ⟨w.heap.size + 1, 1, none⟩ = some (.int .i64 q0) := Q3.cell 1; have k2 : w3.cell? ⟨w.heap.size + 1, 2, none⟩ = some (.int .i64 r1) := Q3.cell 2; have k3 : w3.cell? ⟨w.heap.size + 1, 3, none⟩ = some (.int .i64 q1) := Q3.cell 3; have k4 : w3.cell? ⟨w.heap.size + 1, 4, none⟩ = some (.int .i64 a) := Q3.cell 4; have k5 : w3.cell? ⟨w.heap.size + 1, 5, none⟩ = some (.int .i64 b) := Q3.cell 5; have k6 : w3.cell? ⟨w.heap.size + 1, 6, none⟩ = some (.slice A m1 c) := Q3.cell 6; have k7 : w3.cell? ⟨w.heap.size + 1, 7, none⟩ = some (.int .i64 a2) := Q3.cell 7; have k8 : w3.cell? ⟨w.heap.size + 1, 8, none⟩ = some (.int .i64 b2) := Q3.cell 8; have k9 : w3.cell? ⟨w.heap.size + 1, 9, none⟩ = some (.slice A2 m2 c2) := Q3.cell 9; clear Q3)
      | (go_at_call 73; (with_reducible refine (HF1.out _).mono ?_); rintro e w4 ⟨rfl, hb4⟩; clear k0 k1 k2 k3 k4 k5 k6 k7 k8 k9; have D4 := bel_on D3 hb4; clear hb4; have Q4 := BA.out _ D4; have k0 : w4.cell? ⟨w.heap.size + 1, 0, none⟩ = some (.int .i64 r0) := Q4.cell 0; have k1 : w4.cell? ⟨w.heap.size + 1, 1, none⟩ = some (.int .i64 q0) := Q4.cell 1; have k2 : w4.cell? ⟨w.heap.size + 1, 2, none⟩ = some (.int .i64 r1) := Q4.cell 2; have k3 : w4.cell? ⟨w.heap.size + 1, 3, none⟩ = some (.int .i64 q1) := Q4.cell 3; have k4 : w4.cell? ⟨w.heap.size + 1, 4, none⟩ = some (.int .i64 a) := Q4.cell 4; have k5 : w4.cell? ⟨w.heap.size + 1, 5, none⟩ = some (.int .i64 b) := Q4.cell 5; have k6 : w4.cell? ⟨w.heap.size + 1, 6, none⟩ = some (.slice A m1 c) := Q4.cell 6; have k7 : w4.cell? ⟨w.heap.size + 1, 7, none⟩ = some (.int .i64 a2) := Q4.cell 7; have k8 : w4.cell? ⟨w.heap.size + 1, 8, none⟩ = some (.int .i64 b2) := Q4.cell 8; have k9 : w4.cell? ⟨w.heap.size + 1, 9, none⟩ = some (.slice A2 m2 c2) := Q4.cell 9; clear Q4))
    go_quiet (fail)
    go_wp2_with fail
    go_ret2
    rw [HS.out]
    exact ⟨rfl, below_drewN (bel_on b0 D4) _⟩
  · have t0 : decide (r0 < u) = false := decide_eq_false n0
    have t2 : (a == a2) = true := by simp; omega
    have t3 : (b + 1 == b2) = true := by simp; omega
    clear n0 m0 m1 g1 g2 g3
    go_enter Tryz.func54, Tryz.ntmps54
    go_wp2_with (first
      | (go_at_call 116; (with_reducible refine (HE0.out _).mono ?_); rintro e w1 ⟨rfl, hb1⟩; clear k0 k1 k2 k3 k4 k5 k6 k7 k8 k9; have D1 := bel_on D0 hb1; clear hb1; have Q1 := BA.out _ D1; have k0 : w1.cell? ⟨w.heap.size + 1, 0, none⟩ = some (.int .i64 r0) := Q1.cell 0; have k1 : w1.cell? ⟨w.heap.size + 1, 1, none⟩ = some (.int .i64 q0) := Q1.cell 1; have k2 : w1.cell? ⟨w.heap.size + 1, 2, none⟩ = some (.int .i64 r1) := Q1.cell 2; have k3 : w1.cell? ⟨w.heap.size + 1, 3, none⟩ = some (.int .i64 q1) := Q1.cell 3; have k4 : w1.cell? ⟨w.heap.size + 1, 4, none⟩ = some (.int .i64 a) := Q1.cell 4; have k5 : w1.cell? ⟨w.heap.size + 1, 5, none⟩ = some (.int .i64 b) := Q1.cell 5; have k6 : w1.cell? ⟨w.heap.size + 1, 6, none⟩ = some (.slice A m1 c) := Q1.cell 6; have k7 : w1.cell? ⟨w.heap.size + 1, 7, none⟩ = some (.int .i64 a2) := Q1.cell 7; have k8 : w1.cell? ⟨w.heap.size + 1, 8, none⟩ = some (.int .i64 b2) := Q1.cell 8; have k9 : w1.cell? ⟨w.heap.size + 1, 9, none⟩ = some (.slice A2 m2 c2) := Q1.cell 9; clear Q1)
      | (go_at_call 116; (with_reducible refine (HE1.out _).mono ?_); rintro e w2 ⟨rfl, hb2⟩; clear k0 k1 k2 k3 k4 k5 k6 k7 k8 k9; have D2 := bel_on D1 hb2; clear hb2; have Q2 := BA.out _ D2; have k0 : w2.cell? ⟨w.heap.size + 1, 0, none⟩ = some (.int .i64 r0) := Q2.cell 0; have k1 : w2.cell? ⟨w.heap.size + 1, 1, none⟩ = some (.int .i64 q0) := Q2.cell 1; have k2 : w2.cell? ⟨w.heap.size + 1, 2, none⟩ = some (.int .i64 r1) := Q2.cell 2; have k3 : w2.cell? ⟨w.heap.size + 1, 3, none⟩ = some (.int .i64 q1) := Q2.cell 3; have k4 : w2.cell? ⟨w.heap.size + 1, 4, none⟩ = some (.int .i64 a) := Q2.cell 4; have k5 : w2.cell? ⟨w.heap.size + 1, 5, none⟩ = some (.int .i64 b) := Q2.cell 5; have k6 : w2.cell? ⟨w.heap.size + 1, 6, none⟩ = some (.slice A m1 c) := Q2.cell 6; have k7 : w2.cell? ⟨w.heap.size + 1, 7, none⟩ = some (.int .i64 a2) := Q2.cell 7; have k8 : w2.cell? ⟨w.heap.size + 1, 8, none⟩ = some (.int .i64 b2) := Q2.cell 8; have k9 : w2.cell? ⟨w.heap.size + 1, 9, none⟩ = some (.slice A2 m2 c2) := Q2.cell 9; clear Q2)
      | (go_at_call 73; (with_reducible refine (HF0.out _).mono ?_); rintro e w3 ⟨rfl, hb3⟩; clear k0 k1 k2 k3 k4 k5 k6 k7 k8 k9; have D3 := bel_on D2 hb3; clear hb3; have Q3 := BA.out _ D3; have k0 : w3.cell? ⟨w.heap.size + 1, 0, none⟩ = some (.int .i64 r0) := Q3.cell 0; have k1 : w3.cell? ⟨w.heap.size + 1, 1, none⟩ = some (.int .i64 q0) := Q3.cell 1; have k2 : w3.cell? ⟨w.heap.size + 1, 2, none⟩ = some (.int .i64 r1) := Q3.cell 2; have k3 : w3.cell? ⟨w.heap.size + 1, 3, none⟩ = some (.int .i64 q1) := Q3.cell 3; have k4 : w3.cell? ⟨w.heap.size + 1, 4, none⟩ = some (.int .i64 a) := Q3.cell 4; have k5 : w3.cell? ⟨w.heap.size + 1, 5, none⟩ = some (.int .i64 b) := Q3.cell 5; have k6 : w3.cell? ⟨w.heap.size + 1, 6, none⟩ = some (.slice A m1 c) := Q3.cell 6; have k7 : w3.cell? ⟨w.heap.size + 1, 7, none⟩ = some (.int .i64 a2) := Q3.cell 7; have k8 : w3.cell? ⟨w.heap.size + 1, 8, none⟩ = some (.int .i64 b2) := Q3.cell 8; have k9 : w3.cell? ⟨w.heap.size + 1, 9, none⟩ = some (.slice A2 m2 c2) := Q3.cell 9; clear Q3)
      | (go_at_call 73; (with_reducible refine (HF1.out _).mono ?_); rintro e w4 ⟨rfl, hb4⟩; clear k0 k1 k2 k3 k4 k5 k6 k7 k8 k9; have D4 := bel_on D3 hb4; clear hb4; have Q4 := BA.out _ D4; have k0 : w4.cell? ⟨w.heap.size + 1, 0, none⟩ = some (.int .i64 r0) := Q4.cell 0; have k1 : w4.cell? ⟨w.heap.size + 1, 1, none⟩ = some (.int .i64 q0) := Q4.cell 1; have k2 : w4.cell? ⟨w.heap.size + 1, 2, none⟩ = some (.int .i64 r1) := Q4.cell 2; have k3 : w4.cell? ⟨w.heap.size + 1, 3, none⟩ = some (.int .i64 q1) := Q4.cell 3; have k4 : w4.cell? ⟨w.heap.size + 1, 4, none⟩ = some (.int .i64 a) := Q4.cell 4; have k5 : w4.cell? ⟨w.heap.size + 1, 5, none⟩ = some (.int .i64 b) := Q4.cell 5; have k6 : w4.cell? ⟨w.heap.size + 1, 6, none⟩ = some (.slice A m1 c) := Q4.cell 6; have k7 : w4.cell? ⟨w.heap.size + 1, 7, none⟩ = some (.int .i64 a2) := Q4.cell 7; have k8 : w4.cell? ⟨w.heap.size + 1, 8, none⟩ = some (.int .i64 b2) := Q4.cell 8; have k9 : w4.cell? ⟨w.heap.size + 1, 9, none⟩ = some (.slice A2 m2 c2) := Q4.cell 9; clear Q4))
    go_quiet (fail)
    go_wp2_with fail
    go_ret2
    rw [HS.out]
    exact ⟨rfl, below_drewN (bel_on b0 D4) _⟩
  · have t0 : decide (r0 < u) = true := decide_eq_true n0
    have t1 : decide (u < r1) = false := decide_eq_false n1
    have t2 : (a == a2) = false := by simp; omega
    clear n0 n1 m0 g1 g2 g3
    go_enter Tryz.func54, Tryz.ntmps54
    go_wp2_with (first
      | (go_at_call 116; (with_reducible refine (HE0.out _).mono ?_); rintro e w1 ⟨rfl, hb1⟩; clear k0 k1 k2 k3 k4 k5 k6 k7 k8 k9; have D1 := bel_on D0 hb1; clear hb1; have Q1 := BA.out _ D1; have k0 : w1.cell? ⟨w.heap.size + 1, 0, none⟩ = some (.int .i64 r0) := Q1.cell 0; have k1 : w1.cell? ⟨w.heap.size + 1, 1, none⟩ = some (.int .i64 q0) := Q1.cell 1; have k2 : w1.cell? ⟨w.heap.size + 1, 2, none⟩ = some (.int .i64 r1) := Q1.cell 2; have k3 : w1.cell? ⟨w.heap.size + 1, 3, none⟩ = some (.int .i64 q1) := Q1.cell 3; have k4 : w1.cell? ⟨w.heap.size + 1, 4, none⟩ = some (.int .i64 a) := Q1.cell 4; have k5 : w1.cell? ⟨w.heap.size + 1, 5, none⟩ = some (.int .i64 b) := Q1.cell 5; have k6 : w1.cell? ⟨w.heap.size + 1, 6, none⟩ = some (.slice A m1 c) := Q1.cell 6; have k7 : w1.cell? ⟨w.heap.size + 1, 7, none⟩ = some (.int .i64 a2) := Q1.cell 7; have k8 : w1.cell? ⟨w.heap.size + 1, 8, none⟩ = some (.int .i64 b2) := Q1.cell 8; have k9 : w1.cell? ⟨w.heap.size + 1, 9, none⟩ = some (.slice A2 m2 c2) := Q1.cell 9; clear Q1)
      | (go_at_call 116; (with_reducible refine (HE1.out _).mono ?_); rintro e w2 ⟨rfl, hb2⟩; clear k0 k1 k2 k3 k4 k5 k6 k7 k8 k9; have D2 := bel_on D1 hb2; clear hb2; have Q2 := BA.out _ D2; have k0 : w2.cell? ⟨w.heap.size + 1, 0, none⟩ = some (.int .i64 r0) := Q2.cell 0; have k1 : w2.cell? ⟨w.heap.size + 1, 1, none⟩ = some (.int .i64 q0) := Q2.cell 1; have k2 : w2.cell? ⟨w.heap.size + 1, 2, none⟩ = some (.int .i64 r1) := Q2.cell 2; have k3 : w2.cell? ⟨w.heap.size + 1, 3, none⟩ = some (.int .i64 q1) := Q2.cell 3; have k4 : w2.cell? ⟨w.heap.size + 1, 4, none⟩ = some (.int .i64 a) := Q2.cell 4; have k5 : w2.cell? ⟨w.heap.size + 1, 5, none⟩ = some (.int .i64 b) := Q2.cell 5; have k6 : w2.cell? ⟨w.heap.size + 1, 6, none⟩ = some (.slice A m1 c) := Q2.cell 6; have k7 : w2.cell? ⟨w.heap.size + 1, 7, none⟩ = some (.int .i64 a2) := Q2.cell 7; have k8 : w2.cell? ⟨w.heap.size + 1, 8, none⟩ = some (.int .i64 b2) := Q2.cell 8; have k9 : w2.cell? ⟨w.heap.size + 1, 9, none⟩ = some (.slice A2 m2 c2) := Q2.cell 9; clear Q2)
      | (go_at_call 73; (with_reducible refine (HF0.out _).mono ?_); rintro e w3 ⟨rfl, hb3⟩; clear k0 k1 k2 k3 k4 k5 k6 k7 k8 k9; have D3 := bel_on D2 hb3; clear hb3; have Q3 := BA.out _ D3; have k0 : w3.cell? ⟨w.heap.size + 1, 0, none⟩ = some (.int .i64 r0) := Q3.cell 0; have k1 : w3.cell? ⟨w.heap.size + 1, 1, none⟩ = some (.int .i64 q0) := Q3.cell 1; have k2 : w3.cell? ⟨w.heap.size + 1, 2, none⟩ = some (.int .i64 r1) := Q3.cell 2; have k3 : w3.cell? ⟨w.heap.size + 1, 3, none⟩ = some (.int .i64 q1) := Q3.cell 3; have k4 : w3.cell? ⟨w.heap.size + 1, 4, none⟩ = some (.int .i64 a) := Q3.cell 4; have k5 : w3.cell? ⟨w.heap.size + 1, 5, none⟩ = some (.int .i64 b) := Q3.cell 5; have k6 : w3.cell? ⟨w.heap.size + 1, 6, none⟩ = some (.slice A m1 c) := Q3.cell 6; have k7 : w3.cell? ⟨w.heap.size + 1, 7, none⟩ = some (.int .i64 a2) := Q3.cell 7; have k8 : w3.cell? ⟨w.heap.size + 1, 8, none⟩ = some (.int .i64 b2) := Q3.cell 8; have k9 : w3.cell? ⟨w.heap.size + 1, 9, none⟩ = some (.slice A2 m2 c2) := Q3.cell 9; clear Q3)
      | (go_at_call 73; (with_reducible refine (HF1.out _).mono ?_); rintro e w4 ⟨rfl, hb4⟩; clear k0 k1 k2 k3 k4 k5 k6 k7 k8 k9; have D4 := bel_on D3 hb4; clear hb4; have Q4 := BA.out _ D4; have k0 : w4.cell? ⟨w.heap.size + 1, 0, none⟩ = some (.int .i64 r0) := Q4.cell 0; have k1 : w4.cell? ⟨w.heap.size + 1, 1, none⟩ = some (.int .i64 q0) := Q4.cell 1; have k2 : w4.cell? ⟨w.heap.size + 1, 2, none⟩ = some (.int .i64 r1) := Q4.cell 2; have k3 : w4.cell? ⟨w.heap.size + 1, 3, none⟩ = some (.int .i64 q1) := Q4.cell 3; have k4 : w4.cell? ⟨w.heap.size + 1, 4, none⟩ = some (.int .i64 a) := Q4.cell 4; have k5 : w4.cell? ⟨w.heap.size + 1, 5, none⟩ = some (.int .i64 b) := Q4.cell 5; have k6 : w4.cell? ⟨w.heap.size + 1, 6, none⟩ = some (.slice A m1 c) := Q4.cell 6; have k7 : w4.cell? ⟨w.heap.size + 1, 7, none⟩ = some (.int .i64 a2) := Q4.cell 7; have k8 : w4.cell? ⟨w.heap.size + 1, 8, none⟩ = some (.int .i64 b2) := Q4.cell 8; have k9 : w4.cell? ⟨w.heap.size + 1, 9, none⟩ = some (.slice A2 m2 c2) := Q4.cell 9; clear Q4))
    go_quiet (fail)
    go_wp2_with fail
    go_ret2
    rw [HS.out]
    exact ⟨rfl, below_drewN (bel_on b0 D4) _⟩
  · have t0 : decide (r0 < u) = true := decide_eq_true n0
    have t1 : decide (u < r1) = false := decide_eq_false n1
    have t2 : (a == a2) = true := by simp; omega
    have t3 : (b + 1 == b2) = false := by simp; omega
    clear n0 n1 m0 m1 g1 g2 g3
    go_enter Tryz.func54, Tryz.ntmps54
    go_wp2_with (first
      | (go_at_call 116; (with_reducible refine (HE0.out _).mono ?_); rintro e w1 ⟨rfl, hb1⟩; clear k0 k1 k2 k3 k4 k5 k6 k7 k8 k9; have D1 := bel_on D0 hb1; clear hb1; have Q1 := BA.out _ D1; have k0 : w1.cell? ⟨w.heap.size + 1, 0, none⟩ = some (.int .i64 r0) := Q1.cell 0; have k1 : w1.cell? ⟨w.heap.size + 1, 1, none⟩ = some (.int .i64 q0) := Q1.cell 1; have k2 : w1.cell? ⟨w.heap.size + 1, 2, none⟩ = some (.int .i64 r1) := Q1.cell 2; have k3 : w1.cell? ⟨w.heap.size + 1, 3, none⟩ = some (.int .i64 q1) := Q1.cell 3; have k4 : w1.cell? ⟨w.heap.size + 1, 4, none⟩ = some (.int .i64 a) := Q1.cell 4; have k5 : w1.cell? ⟨w.heap.size + 1, 5, none⟩ = some (.int .i64 b) := Q1.cell 5; have k6 : w1.cell? ⟨w.heap.size + 1, 6, none⟩ = some (.slice A m1 c) := Q1.cell 6; have k7 : w1.cell? ⟨w.heap.size + 1, 7, none⟩ = some (.int .i64 a2) := Q1.cell 7; have k8 : w1.cell? ⟨w.heap.size + 1, 8, none⟩ = some (.int .i64 b2) := Q1.cell 8; have k9 : w1.cell? ⟨w.heap.size + 1, 9, none⟩ = some (.slice A2 m2 c2) := Q1.cell 9; clear Q1)
      | (go_at_call 116; (with_reducible refine (HE1.out _).mono ?_); rintro e w2 ⟨rfl, hb2⟩; clear k0 k1 k2 k3 k4 k5 k6 k7 k8 k9; have D2 := bel_on D1 hb2; clear hb2; have Q2 := BA.out _ D2; have k0 : w2.cell? ⟨w.heap.size + 1, 0, none⟩ = some (.int .i64 r0) := Q2.cell 0; have k1 : w2.cell? ⟨w.heap.size + 1, 1, none⟩ = some (.int .i64 q0) := Q2.cell 1; have k2 : w2.cell? ⟨w.heap.size + 1, 2, none⟩ = some (.int .i64 r1) := Q2.cell 2; have k3 : w2.cell? ⟨w.heap.size + 1, 3, none⟩ = some (.int .i64 q1) := Q2.cell 3; have k4 : w2.cell? ⟨w.heap.size + 1, 4, none⟩ = some (.int .i64 a) := Q2.cell 4; have k5 : w2.cell? ⟨w.heap.size + 1, 5, none⟩ = some (.int .i64 b) := Q2.cell 5; have k6 : w2.cell? ⟨w.heap.size + 1, 6, none⟩ = some (.slice A m1 c) := Q2.cell 6; have k7 : w2.cell? ⟨w.heap.size + 1, 7, none⟩ = some (.int .i64 a2) := Q2.cell 7; have k8 : w2.cell? ⟨w.heap.size + 1, 8, none⟩ = some (.int .i64 b2) := Q2.cell 8; have k9 : w2.cell? ⟨w.heap.size + 1, 9, none⟩ = some (.slice A2 m2 c2) := Q2.cell 9; clear Q2)
      | (go_at_call 73; (with_reducible refine (HF0.out _).mono ?_); rintro e w3 ⟨rfl, hb3⟩; clear k0 k1 k2 k3 k4 k5 k6 k7 k8 k9; have D3 := bel_on D2 hb3; clear hb3; have Q3 := BA.out _ D3; have k0 : w3.cell? ⟨w.heap.size + 1, 0, none⟩ = some (.int .i64 r0) := Q3.cell 0; have k1 : w3.cell? ⟨w.heap.size + 1, 1, none⟩ = some (.int .i64 q0) := Q3.cell 1; have k2 : w3.cell? ⟨w.heap.size + 1, 2, none⟩ = some (.int .i64 r1) := Q3.cell 2; have k3 : w3.cell? ⟨w.heap.size + 1, 3, none⟩ = some (.int .i64 q1) := Q3.cell 3; have k4 : w3.cell? ⟨w.heap.size + 1, 4, none⟩ = some (.int .i64 a) := Q3.cell 4; have k5 : w3.cell? ⟨w.heap.size + 1, 5, none⟩ = some (.int .i64 b) := Q3.cell 5; have k6 : w3.cell? ⟨w.heap.size + 1, 6, none⟩ = some (.slice A m1 c) := Q3.cell 6; have k7 : w3.cell? ⟨w.heap.size + 1, 7, none⟩ = some (.int .i64 a2) := Q3.cell 7; have k8 : w3.cell? ⟨w.heap.size + 1, 8, none⟩ = some (.int .i64 b2) := Q3.cell 8; have k9 : w3.cell? ⟨w.heap.size + 1, 9, none⟩ = some (.slice A2 m2 c2) := Q3.cell 9; clear Q3)
      | (go_at_call 73; (with_reducible refine (HF1.out _).mono ?_); rintro e w4 ⟨rfl, hb4⟩; clear k0 k1 k2 k3 k4 k5 k6 k7 k8 k9; have D4 := bel_on D3 hb4; clear hb4; have Q4 := BA.out _ D4; have k0 : w4.cell? ⟨w.heap.size + 1, 0, none⟩ = some (.int .i64 r0) := Q4.cell 0; have k1 : w4.cell? ⟨w.heap.size + 1, 1, none⟩ = some (.int .i64 q0) := Q4.cell 1; have k2 : w4.cell? ⟨w.heap.size + 1, 2, none⟩ = some (.int .i64 r1) := Q4.cell 2; have k3 : w4.cell? ⟨w.heap.size + 1, 3, none⟩ = some (.int .i64 q1) := Q4.cell 3; have k4 : w4.cell? ⟨w.heap.size + 1, 4, none⟩ = some (.int .i64 a) := Q4.cell 4; have k5 : w4.cell? ⟨w.heap.size + 1, 5, none⟩ = some (.int .i64 b) := Q4.cell 5; have k6 : w4.cell? ⟨w.heap.size + 1, 6, none⟩ = some (.slice A m1 c) := Q4.cell 6; have k7 : w4.cell? ⟨w.heap.size + 1, 7, none⟩ = some (.int .i64 a2) := Q4.cell 7; have k8 : w4.cell? ⟨w.heap.size + 1, 8, none⟩ = some (.int .i64 b2) := Q4.cell 8; have k9 : w4.cell? ⟨w.heap.size + 1, 9, none⟩ = some (.slice A2 m2 c2) := Q4.cell 9; clear Q4))
    go_quiet (fail)
    go_wp2_with fail
    go_ret2
    rw [HS.out]
    exact ⟨rfl, below_drewN (bel_on b0 D4) _⟩
  · have t0 : decide (r0 < u) = true := decide_eq_true n0
    have t1 : decide (u < r1) = false := decide_eq_false n1
    have t2 : (a == a2) = true := by simp; omega
    have t3 : (b + 1 == b2) = true := by simp; omega
    clear n0 n1 m0 m1 g1 g2 g3
    go_enter Tryz.func54, Tryz.ntmps54
    go_wp2_with (first
      | (go_at_call 116; (with_reducible refine (HE0.out _).mono ?_); rintro e w1 ⟨rfl, hb1⟩; clear k0 k1 k2 k3 k4 k5 k6 k7 k8 k9; have D1 := bel_on D0 hb1; clear hb1; have Q1 := BA.out _ D1; have k0 : w1.cell? ⟨w.heap.size + 1, 0, none⟩ = some (.int .i64 r0) := Q1.cell 0; have k1 : w1.cell? ⟨w.heap.size + 1, 1, none⟩ = some (.int .i64 q0) := Q1.cell 1; have k2 : w1.cell? ⟨w.heap.size + 1, 2, none⟩ = some (.int .i64 r1) := Q1.cell 2; have k3 : w1.cell? ⟨w.heap.size + 1, 3, none⟩ = some (.int .i64 q1) := Q1.cell 3; have k4 : w1.cell? ⟨w.heap.size + 1, 4, none⟩ = some (.int .i64 a) := Q1.cell 4; have k5 : w1.cell? ⟨w.heap.size + 1, 5, none⟩ = some (.int .i64 b) := Q1.cell 5; have k6 : w1.cell? ⟨w.heap.size + 1, 6, none⟩ = some (.slice A m1 c) := Q1.cell 6; have k7 : w1.cell? ⟨w.heap.size + 1, 7, none⟩ = some (.int .i64 a2) := Q1.cell 7; have k8 : w1.cell? ⟨w.heap.size + 1, 8, none⟩ = some (.int .i64 b2) := Q1.cell 8; have k9 : w1.cell? ⟨w.heap.size + 1, 9, none⟩ = some (.slice A2 m2 c2) := Q1.cell 9; clear Q1)
      | (go_at_call 116; (with_reducible refine (HE1.out _).mono ?_); rintro e w2 ⟨rfl, hb2⟩; clear k0 k1 k2 k3 k4 k5 k6 k7 k8 k9; have D2 := bel_on D1 hb2; clear hb2; have Q2 := BA.out _ D2; have k0 : w2.cell? ⟨w.heap.size + 1, 0, none⟩ = some (.int .i64 r0) := Q2.cell 0; have k1 : w2.cell? ⟨w.heap.size + 1, 1, none⟩ = some (.int .i64 q0) := Q2.cell 1; have k2 : w2.cell? ⟨w.heap.size + 1, 2, none⟩ = some (.int .i64 r1) := Q2.cell 2; have k3 : w2.cell? ⟨w.heap.size + 1, 3, none⟩ = some (.int .i64 q1) := Q2.cell 3; have k4 : w2.cell? ⟨w.heap.size + 1, 4, none⟩ = some (.int .i64 a) := Q2.cell 4; have k5 : w2.cell? ⟨w.heap.size + 1, 5, none⟩ = some (.int .i64 b) := Q2.cell 5; have k6 : w2.cell? ⟨w.heap.size + 1, 6, none⟩ = some (.slice A m1 c) := Q2.cell 6; have k7 : w2.cell? ⟨w.heap.size + 1, 7, none⟩ = some (.int .i64 a2) := Q2.cell 7; have k8 : w2.cell? ⟨w.heap.size + 1, 8, none⟩ = some (.int .i64 b2) := Q2.cell 8; have k9 : w2.cell? ⟨w.heap.size + 1, 9, none⟩ = some (.slice A2 m2 c2) := Q2.cell 9; clear Q2)
      | (go_at_call 73; (with_reducible refine (HF0.out _).mono ?_); rintro e w3 ⟨rfl, hb3⟩; clear k0 k1 k2 k3 k4 k5 k6 k7 k8 k9; have D3 := bel_on D2 hb3; clear hb3; have Q3 := BA.out _ D3; have k0 : w3.cell? ⟨w.heap.size + 1, 0, none⟩ = some (.int .i64 r0) := Q3.cell 0; have k1 : w3.cell? ⟨w.heap.size + 1, 1, none⟩ = some (.int .i64 q0) := Q3.cell 1; have k2 : w3.cell? ⟨w.heap.size + 1, 2, none⟩ = some (.int .i64 r1) := Q3.cell 2; have k3 : w3.cell? ⟨w.heap.size + 1, 3, none⟩ = some (.int .i64 q1) := Q3.cell 3; have k4 : w3.cell? ⟨w.heap.size + 1, 4, none⟩ = some (.int .i64 a) := Q3.cell 4; have k5 : w3.cell? ⟨w.heap.size + 1, 5, none⟩ = some (.int .i64 b) := Q3.cell 5; have k6 : w3.cell? ⟨w.heap.size + 1, 6, none⟩ = some (.slice A m1 c) := Q3.cell 6; have k7 : w3.cell? ⟨w.heap.size + 1, 7, none⟩ = some (.int .i64 a2) := Q3.cell 7; have k8 : w3.cell? ⟨w.heap.size + 1, 8, none⟩ = some (.int .i64 b2) := Q3.cell 8; have k9 : w3.cell? ⟨w.heap.size + 1, 9, none⟩ = some (.slice A2 m2 c2) := Q3.cell 9; clear Q3)
      | (go_at_call 73; (with_reducible refine (HF1.out _).mono ?_); rintro e w4 ⟨rfl, hb4⟩; clear k0 k1 k2 k3 k4 k5 k6 k7 k8 k9; have D4 := bel_on D3 hb4; clear hb4; have Q4 := BA.out _ D4; have k0 : w4.cell? ⟨w.heap.size + 1, 0, none⟩ = some (.int .i64 r0) := Q4.cell 0; have k1 : w4.cell? ⟨w.heap.size + 1, 1, none⟩ = some (.int .i64 q0) := Q4.cell 1; have k2 : w4.cell? ⟨w.heap.size + 1, 2, none⟩ = some (.int .i64 r1) := Q4.cell 2; have k3 : w4.cell? ⟨w.heap.size + 1, 3, none⟩ = some (.int .i64 q1) := Q4.cell 3; have k4 : w4.cell? ⟨w.heap.size + 1, 4, none⟩ = some (.int .i64 a) := Q4.cell 4; have k5 : w4.cell? ⟨w.heap.size + 1, 5, none⟩ = some (.int .i64 b) := Q4.cell 5; have k6 : w4.cell? ⟨w.heap.size + 1, 6, none⟩ = some (.slice A m1 c) := Q4.cell 6; have k7 : w4.cell? ⟨w.heap.size + 1, 7, none⟩ = some (.int .i64 a2) := Q4.cell 7; have k8 : w4.cell? ⟨w.heap.size + 1, 8, none⟩ = some (.int .i64 b2) := Q4.cell 8; have k9 : w4.cell? ⟨w.heap.size + 1, 9, none⟩ = some (.slice A2 m2 c2) := Q4.cell 9; clear Q4))
    go_quiet (fail)
    go_wp2_with fail
    go_ret2
    rw [HS.out]
    exact ⟨rfl, below_drewN (bel_on b0 D4) _⟩
  · have t0 : decide (r0 < u) = true := decide_eq_true n0
    have t1 : decide (u < r1) = true := decide_eq_true n1
    have t2 : (a == a2) = false := by simp; omega
    clear n0 n1 m0 g1 g2 g3
    go_enter Tryz.func54, Tryz.ntmps54
    go_wp2_with (first
      | (go_at_call 116; (with_reducible refine (HE0.out _).mono ?_); rintro e w1 ⟨rfl, hb1⟩; clear k0 k1 k2 k3 k4 k5 k6 k7 k8 k9; have D1 := bel_on D0 hb1; clear hb1; have Q1 := BA.out _ D1; have k0 : w1.cell? ⟨w.heap.size + 1, 0, none⟩ = some (.int .i64 r0) := Q1.cell 0; have k1 : w1.cell? ⟨w.heap.size + 1, 1, none⟩ = some (.int .i64 q0) := Q1.cell 1; have k2 : w1.cell? ⟨w.heap.size + 1, 2, none⟩ = some (.int .i64 r1) := Q1.cell 2; have k3 : w1.cell? ⟨w.heap.size + 1, 3, none⟩ = some (.int .i64 q1) := Q1.cell 3; have k4 : w1.cell? ⟨w.heap.size + 1, 4, none⟩ = some (.int .i64 a) := Q1.cell 4; have k5 : w1.cell? ⟨w.heap.size + 1, 5, none⟩ = some (.int .i64 b) := Q1.cell 5; have k6 : w1.cell? ⟨w.heap.size + 1, 6, none⟩ = some (.slice A m1 c) := Q1.cell 6; have k7 : w1.cell? ⟨w.heap.size + 1, 7, none⟩ = some (.int .i64 a2) := Q1.cell 7; have k8 : w1.cell? ⟨w.heap.size + 1, 8, none⟩ = some (.int .i64 b2) := Q1.cell 8; have k9 : w1.cell? ⟨w.heap.size + 1, 9, none⟩ = some (.slice A2 m2 c2) := Q1.cell 9; clear Q1)
      | (go_at_call 116; (with_reducible refine (HE1.out _).mono ?_); rintro e w2 ⟨rfl, hb2⟩; clear k0 k1 k2 k3 k4 k5 k6 k7 k8 k9; have D2 := bel_on D1 hb2; clear hb2; have Q2 := BA.out _ D2; have k0 : w2.cell? ⟨w.heap.size + 1, 0, none⟩ = some (.int .i64 r0) := Q2.cell 0; have k1 : w2.cell? ⟨w.heap.size + 1, 1, none⟩ = some (.int .i64 q0) := Q2.cell 1; have k2 : w2.cell? ⟨w.heap.size + 1, 2, none⟩ = some (.int .i64 r1) := Q2.cell 2; have k3 : w2.cell? ⟨w.heap.size + 1, 3, none⟩ = some (.int .i64 q1) := Q2.cell 3; have k4 : w2.cell? ⟨w.heap.size + 1, 4, none⟩ = some (.int .i64 a) := Q2.cell 4; have k5 : w2.cell? ⟨w.heap.size + 1, 5, none⟩ = some (.int .i64 b) := Q2.cell 5; have k6 : w2.cell? ⟨w.heap.size + 1, 6, none⟩ = some (.slice A m1 c) := Q2.cell 6; have k7 : w2.cell? ⟨w.heap.size + 1, 7, none⟩ = some (.int .i64 a2) := Q2.cell 7; have k8 : w2.cell? ⟨w.heap.size + 1, 8, none⟩ = some (.int .i64 b2) := Q2.cell 8; have k9 : w2.cell? ⟨w.heap.size + 1, 9, none⟩ = some (.slice A2 m2 c2) := Q2.cell 9; clear Q2)
      | (go_at_call 73; (with_reducible refine (HF0.out _).mono ?_); rintro e w3 ⟨rfl, hb3⟩; clear k0 k1 k2 k3 k4 k5 k6 k7 k8 k9; have D3 := bel_on D2 hb3; clear hb3; have Q3 := BA.out _ D3; have k0 : w3.cell? ⟨w.heap.size + 1, 0, none⟩ = some (.int .i64 r0) := Q3.cell 0; have k1 : w3.cell? ⟨w.heap.size + 1, 1, none⟩ = some (.int .i64 q0) := Q3.cell 1; have k2 : w3.cell? ⟨w.heap.size + 1, 2, none⟩ = some (.int .i64 r1) := Q3.cell 2; have k3 : w3.cell? ⟨w.heap.size + 1, 3, none⟩ = some (.int .i64 q1) := Q3.cell 3; have k4 : w3.cell? ⟨w.heap.size + 1, 4, none⟩ = some (.int .i64 a) := Q3.cell 4; have k5 : w3.cell? ⟨w.heap.size + 1, 5, none⟩ = some (.int .i64 b) := Q3.cell 5; have k6 : w3.cell? ⟨w.heap.size + 1, 6, none⟩ = some (.slice A m1 c) := Q3.cell 6; have k7 : w3.cell? ⟨w.heap.size + 1, 7, none⟩ = some (.int .i64 a2) := Q3.cell 7; have k8 : w3.cell? ⟨w.heap.size + 1, 8, none⟩ = some (.int .i64 b2) := Q3.cell 8; have k9 : w3.cell? ⟨w.heap.size + 1, 9, none⟩ = some (.slice A2 m2 c2) := Q3.cell 9; clear Q3)
      | (go_at_call 73; (with_reducible refine (HF1.out _).mono ?_); rintro e w4 ⟨rfl, hb4⟩; clear k0 k1 k2 k3 k4 k5 k6 k7 k8 k9; have D4 := bel_on D3 hb4; clear hb4; have Q4 := BA.out _ D4; have k0 : w4.cell? ⟨w.heap.size + 1, 0, none⟩ = some (.int .i64 r0) := Q4.cell 0; have k1 : w4.cell? ⟨w.heap.size + 1, 1, none⟩ = some (.int .i64 q0) := Q4.cell 1; have k2 : w4.cell? ⟨w.heap.size + 1, 2, none⟩ = some (.int .i64 r1) := Q4.cell 2; have k3 : w4.cell? ⟨w.heap.size + 1, 3, none⟩ = some (.int .i64 q1) := Q4.cell 3; have k4 : w4.cell? ⟨w.heap.size + 1, 4, none⟩ = some (.int .i64 a) := Q4.cell 4; have k5 : w4.cell? ⟨w.heap.size + 1, 5, none⟩ = some (.int .i64 b) := Q4.cell 5; have k6 : w4.cell? ⟨w.heap.size + 1, 6, none⟩ = some (.slice A m1 c) := Q4.cell 6; have k7 : w4.cell? ⟨w.heap.size + 1, 7, none⟩ = some (.int .i64 a2) := Q4.cell 7; have k8 : w4.cell? ⟨w.heap.size + 1, 8, none⟩ = some (.int .i64 b2) := Q4.cell 8; have k9 : w4.cell? ⟨w.heap.size + 1, 9, none⟩ = some (.slice A2 m2 c2) := Q4.cell 9; clear Q4))
    go_quiet (fail)
    go_wp2_with fail
    go_ret2
    rw [HS.out]
    exact ⟨rfl, below_drewN (bel_on b0 D4) _⟩
  · have t0 : decide (r0 < u) = true := decide_eq_true n0
    have t1 : decide (u < r1) = true := decide_eq_true n1
    have t2 : (a == a2) = true := by simp; omega
    have t3 : (b + 1 == b2) = false := by simp; omega
    clear n0 n1 m0 m1 g1 g2 g3
    go_enter Tryz.func54, Tryz.ntmps54
    go_wp2_with (first
      | (go_at_call 116; (with_reducible refine (HE0.out _).mono ?_); rintro e w1 ⟨rfl, hb1⟩; clear k0 k1 k2 k3 k4 k5 k6 k7 k8 k9; have D1 := bel_on D0 hb1; clear hb1; have Q1 := BA.out _ D1; have k0 : w1.cell? ⟨w.heap.size + 1, 0, none⟩ = some (.int .i64 r0) := Q1.cell 0; have k1 : w1.cell? ⟨w.heap.size + 1, 1, none⟩ = some (.int .i64 q0) := Q1.cell 1; have k2 : w1.cell? ⟨w.heap.size + 1, 2, none⟩ = some (.int .i64 r1) := Q1.cell 2; have k3 : w1.cell? ⟨w.heap.size + 1, 3, none⟩ = some (.int .i64 q1) := Q1.cell 3; have k4 : w1.cell? ⟨w.heap.size + 1, 4, none⟩ = some (.int .i64 a) := Q1.cell 4; have k5 : w1.cell? ⟨w.heap.size + 1, 5, none⟩ = some (.int .i64 b) := Q1.cell 5; have k6 : w1.cell? ⟨w.heap.size + 1, 6, none⟩ = some (.slice A m1 c) := Q1.cell 6; have k7 : w1.cell? ⟨w.heap.size + 1, 7, none⟩ = some (.int .i64 a2) := Q1.cell 7; have k8 : w1.cell? ⟨w.heap.size + 1, 8, none⟩ = some (.int .i64 b2) := Q1.cell 8; have k9 : w1.cell? ⟨w.heap.size + 1, 9, none⟩ = some (.slice A2 m2 c2) := Q1.cell 9; clear Q1)
      | (go_at_call 116; (with_reducible refine (HE1.out _).mono ?_); rintro e w2 ⟨rfl, hb2⟩; clear k0 k1 k2 k3 k4 k5 k6 k7 k8 k9; have D2 := bel_on D1 hb2; clear hb2; have Q2 := BA.out _ D2; have k0 : w2.cell? ⟨w.heap.size + 1, 0, none⟩ = some (.int .i64 r0) := Q2.cell 0; have k1 : w2.cell? ⟨w.heap.size + 1, 1, none⟩ = some (.int .i64 q0) := Q2.cell 1; have k2 : w2.cell? ⟨w.heap.size + 1, 2, none⟩ = some (.int .i64 r1) := Q2.cell 2; have k3 : w2.cell? ⟨w.heap.size + 1, 3, none⟩ = some (.int .i64 q1) := Q2.cell 3; have k4 : w2.cell? ⟨w.heap.size + 1, 4, none⟩ = some (.int .i64 a) := Q2.cell 4; have k5 : w2.cell? ⟨w.heap.size + 1, 5, none⟩ = some (.int .i64 b) := Q2.cell 5; have k6 : w2.cell? ⟨w.heap.size + 1, 6, none⟩ = some (.slice A m1 c) := Q2.cell 6; have k7 : w2.cell? ⟨w.heap.size + 1, 7, none⟩ = some (.int .i64 a2) := Q2.cell 7; have k8 : w2.cell? ⟨w.heap.size + 1, 8, none⟩ = some (.int .i64 b2) := Q2.cell 8; have k9 : w2.cell? ⟨w.heap.size + 1, 9, none⟩ = some (.slice A2 m2 c2) := Q2.cell 9; clear Q2)
      | (go_at_call 73; (with_reducible refine (HF0.out _).mono ?_); rintro e w3 ⟨rfl, hb3⟩; clear k0 k1 k2 k3 k4 k5 k6 k7 k8 k9; have D3 := bel_on D2 hb3; clear hb3; have Q3 := BA.out _ D3; have k0 : w3.cell? ⟨w.heap.size + 1, 0, none⟩ = some (.int .i64 r0) := Q3.cell 0; have k1 : w3.cell? ⟨w.heap.size + 1, 1, none⟩ = some (.int .i64 q0) := Q3.cell 1; have k2 : w3.cell? ⟨w.heap.size + 1, 2, none⟩ = some (.int .i64 r1) := Q3.cell 2; have k3 : w3.cell? ⟨w.heap.size + 1, 3, none⟩ = some (.int .i64 q1) := Q3.cell 3; have k4 : w3.cell? ⟨w.heap.size + 1, 4, none⟩ = some (.int .i64 a) := Q3.cell 4; have k5 : w3.cell? ⟨w.heap.size + 1, 5, none⟩ = some (.int .i64 b) := Q3.cell 5; have k6 : w3.cell? ⟨w.heap.size + 1, 6, none⟩ = some (.slice A m1 c) := Q3.cell 6; have k7 : w3.cell? ⟨w.heap.size + 1, 7, none⟩ = some (.int .i64 a2) := Q3.cell 7; have k8 : w3.cell? ⟨w.heap.size + 1, 8, none⟩ = some (.int .i64 b2) := Q3.cell 8; have k9 : w3.cell? ⟨w.heap.size + 1, 9, none⟩ = some (.slice A2 m2 c2) := Q3.cell 9; clear Q3)
      | (go_at_call 73; (with_reducible refine (HF1.out _).mono ?_); rintro e w4 ⟨rfl, hb4⟩; clear k0 k1 k2 k3 k4 k5 k6 k7 k8 k9; have D4 := bel_on D3 hb4; clear hb4; have Q4 := BA.out _ D4; have k0 : w4.cell? ⟨w.heap.size + 1, 0, none⟩ = some (.int .i64 r0) := Q4.cell 0; have k1 : w4.cell? ⟨w.heap.size + 1, 1, none⟩ = some (.int .i64 q0) := Q4.cell 1; have k2 : w4.cell? ⟨w.heap.size + 1, 2, none⟩ = some (.int .i64 r1) := Q4.cell 2; have k3 : w4.cell? ⟨w.heap.size + 1, 3, none⟩ = some (.int .i64 q1) := Q4.cell 3; have k4 : w4.cell? ⟨w.heap.size + 1, 4, none⟩ = some (.int .i64 a) := Q4.cell 4; have k5 : w4.cell? ⟨w.heap.size + 1, 5, none⟩ = some (.int .i64 b) := Q4.cell 5; have k6 : w4.cell? ⟨w.heap.size + 1, 6, none⟩ = some (.slice A m1 c) := Q4.cell 6; have k7 : w4.cell? ⟨w.heap.size + 1, 7, none⟩ = some (.int .i64 a2) := Q4.cell 7; have k8 : w4.cell? ⟨w.heap.size + 1, 8, none⟩ = some (.int .i64 b2) := Q4.cell 8; have k9 : w4.cell? ⟨w.heap.size + 1, 9, none⟩ = some (.slice A2 m2 c2) := Q4.cell 9; clear Q4))
    go_quiet (fail)
    go_wp2_with fail
    go_ret2
    rw [HS.out]
    exact ⟨rfl, below_drewN (bel_on b0 D4) _⟩

set_option maxHeartbeats 16000000 in
set_option maxRecDepth 100000 in
theorem voff_near (root : List UInt8) (u r0 q0 r1 q1 a b a2 b2 : Int) (P R : List (List UInt8)) (A A2 : Option Addr) (c c2 : Nat) (w : World) {m1 m2 : Nat} (hr : root.length = 16) (hm1 : P.length = m1) (hm2 : R.length = m2) (h : KR w A c P) (h2 : KR w A2 c2 R) (h3 : 0 ≤ u) (h4 : u < 64) (hv : okV (r0, q0) (r1, q1) a b m1 a2 b2 m2 = true) (n0 : r0 < u) (n1 : u < r1) (n2 : a = a2) (n3 : b + 1 = b2) :
    Calls Tryz.prog 54 #[.agg (cellsB root).toArray, .int .i64 u, .agg #[.int .i64 r0, .int .i64 q0, .int .i64 r1, .int .i64 q1, .int .i64 a, .int .i64 b, .slice A m1 c, .int .i64 a2, .int .i64 b2, .slice A2 m2 c2]] w fun e w' => e = .returned (.tuple #[.bool (voS root u (r0, q0) (r1, q1) a b P a2 b2 R).1, .int .i64 (voS root u (r0, q0) (r1, q1) a b P a2 b2 R).2]) ∧ Below w.heap.size w w' := by
  have b0 := alloc2_bel w (.cells (cellsB root).toArray 24) (.cells #[.int .i64 r0, .int .i64 q0, .int .i64 r1, .int .i64 q1, .int .i64 a, .int .i64 b, .slice A m1 c, .int .i64 a2, .int .i64 b2, .slice A2 m2 c2] 100)
  have hml1 := h.len
  have hml2 := h2.len
  have BA : Hid (∀ W, Below ((w.alloc (.cells (cellsB root).toArray 24)).alloc (.cells #[.int .i64 r0, .int .i64 q0, .int .i64 r1, .int .i64 q1, .int .i64 a, .int .i64 b, .slice A m1 c, .int .i64 a2, .int .i64 b2, .slice A2 m2 c2] 100)).heap.size ((w.alloc (.cells (cellsB root).toArray 24)).alloc (.cells #[.int .i64 r0, .int .i64 q0, .int .i64 r1, .int .i64 q1, .int .i64 a, .int .i64 b, .slice A m1 c, .int .i64 a2, .int .i64 b2, .slice A2 m2 c2] 100)) W → Blk W (w.heap.size + 1) 100 #[.int .i64 r0, .int .i64 q0, .int .i64 r1, .int .i64 q1, .int .i64 a, .int .i64 b, .slice A m1 c, .int .i64 a2, .int .i64 b2, .slice A2 m2 c2]) := fun W hW => (blk_b1 w (.cells (cellsB root).toArray 24) #[.int .i64 r0, .int .i64 q0, .int .i64 r1, .int .i64 q1, .int .i64 a, .int .i64 b, .slice A m1 c, .int .i64 a2, .int .i64 b2, .slice A2 m2 c2] 100).below' hW
  have BR : Hid (∀ W, Below ((w.alloc (.cells (cellsB root).toArray 24)).alloc (.cells #[.int .i64 r0, .int .i64 q0, .int .i64 r1, .int .i64 q1, .int .i64 a, .int .i64 b, .slice A m1 c, .int .i64 a2, .int .i64 b2, .slice A2 m2 c2] 100)).heap.size ((w.alloc (.cells (cellsB root).toArray 24)).alloc (.cells #[.int .i64 r0, .int .i64 q0, .int .i64 r1, .int .i64 q1, .int .i64 a, .int .i64 b, .slice A m1 c, .int .i64 a2, .int .i64 b2, .slice A2 m2 c2] 100)) W → Blk W w.heap.size 24 (cellsB root).toArray) := fun W hW => (blk_b0 w (cellsB root).toArray 24 (.cells #[.int .i64 r0, .int .i64 q0, .int .i64 r1, .int .i64 q1, .int .i64 a, .int .i64 b, .slice A m1 c, .int .i64 a2, .int .i64 b2, .slice A2 m2 c2] 100)).below' hW
  have D0 : Below ((w.alloc (.cells (cellsB root).toArray 24)).alloc (.cells #[.int .i64 r0, .int .i64 q0, .int .i64 r1, .int .i64 q1, .int .i64 a, .int .i64 b, .slice A m1 c, .int .i64 a2, .int .i64 b2, .slice A2 m2 c2] 100)).heap.size ((w.alloc (.cells (cellsB root).toArray 24)).alloc (.cells #[.int .i64 r0, .int .i64 q0, .int .i64 r1, .int .i64 q1, .int .i64 a, .int .i64 b, .slice A m1 c, .int .i64 a2, .int .i64 b2, .slice A2 m2 c2] 100)) ((w.alloc (.cells (cellsB root).toArray 24)).alloc (.cells #[.int .i64 r0, .int .i64 q0, .int .i64 r1, .int .i64 q1, .int .i64 a, .int .i64 b, .slice A m1 c, .int .i64 a2, .int .i64 b2, .slice A2 m2 c2] 100)) := Below.refl _ _
  have HE0 : Hid (∀ W, Calls Tryz.prog 116 #[.agg #[.int .i64 r0, .int .i64 q0]] W fun e w' => e = .returned (.bool (isE (r0, q0))) ∧ Below W.heap.size W w') := fun W => isEntry_any r0 q0 W
  have HE1 : Hid (∀ W, Calls Tryz.prog 116 #[.agg #[.int .i64 r1, .int .i64 q1]] W fun e w' => e = .returned (.bool (isE (r1, q1))) ∧ Below W.heap.size W w') := fun W => isEntry_any r1 q1 W
  have HF0 : Hid (∀ W, Calls Tryz.prog 73 #[.agg #[.int .i64 a, .int .i64 b, .slice A m1 c]] W fun e w' => e = .returned (.bool (fitsB a b m1)) ∧ Below W.heap.size W w') := fun W => fits_any a b A m1 c W (by omega)
  have HF1 : Hid (∀ W, Calls Tryz.prog 73 #[.agg #[.int .i64 a2, .int .i64 b2, .slice A2 m2 c2]] W fun e w' => e = .returned (.bool (fitsB a2 b2 m2)) ∧ Below W.heap.size W w') := fun W => fits_any a2 b2 A2 m2 c2 W (by omega)
  obtain ⟨v0, hv0⟩ : ∃ v, ((climbS (leafE (r0, q0)) a.toNat b.toNat P).1 == root) = v := ⟨_, rfl⟩
  obtain ⟨v1, hv1⟩ : ∃ v, ((climbS (leafE (r1, q1)) a2.toNat b2.toNat R).1 == root) = v := ⟨_, rfl⟩
  have HS : Hid (voS root u (r0, q0) (r1, q1) a b P a2 b2 R = (v0 && v1, 0)) := by unfold Hid voS; rw [if_neg (by omega), hm1, hm2, if_neg (by rw [hv]; simp), nearB_yes n0 n1 n2 n3, hv0, hv1]; rfl
  obtain ⟨g1, g2, g3⟩ := okV_b hv
  have ew : IntKind.i64.wrap (b + 1) = b + 1 := by rw [IntKind.wrap_i64]; omega
  have t0 : decide (r0 < u) = true := decide_eq_true n0
  have t1 : decide (u < r1) = true := decide_eq_true n1
  have t2 : (a == a2) = true := by simp; omega
  have t3 : (b + 1 == b2) = true := by simp; omega
  have s0 : decide (u < 0) = false := by simp; omega
  have s1 : decide (64 ≤ u) = false := by simp; omega
  obtain ⟨x0, x1, x2, x3⟩ := okV_iff.1 hv
  rw [x0] at HE0
  rw [x1] at HE1
  rw [x2] at HF0
  rw [x3] at HF1
  have k0 : ((w.alloc (.cells (cellsB root).toArray 24)).alloc (.cells #[.int .i64 r0, .int .i64 q0, .int .i64 r1, .int .i64 q1, .int .i64 a, .int .i64 b, .slice A m1 c, .int .i64 a2, .int .i64 b2, .slice A2 m2 c2] 100)).cell? ⟨w.heap.size + 1, 0, none⟩ = some (.int .i64 r0) := (BA.out _ D0).cell 0; have k1 : ((w.alloc (.cells (cellsB root).toArray 24)).alloc (.cells #[.int .i64 r0, .int .i64 q0, .int .i64 r1, .int .i64 q1, .int .i64 a, .int .i64 b, .slice A m1 c, .int .i64 a2, .int .i64 b2, .slice A2 m2 c2] 100)).cell? ⟨w.heap.size + 1, 1, none⟩ = some (.int .i64 q0) := (BA.out _ D0).cell 1; have k2 : ((w.alloc (.cells (cellsB root).toArray 24)).alloc (.cells #[.int .i64 r0, .int .i64 q0, .int .i64 r1, .int .i64 q1, .int .i64 a, .int .i64 b, .slice A m1 c, .int .i64 a2, .int .i64 b2, .slice A2 m2 c2] 100)).cell? ⟨w.heap.size + 1, 2, none⟩ = some (.int .i64 r1) := (BA.out _ D0).cell 2; have k3 : ((w.alloc (.cells (cellsB root).toArray 24)).alloc (.cells #[.int .i64 r0, .int .i64 q0, .int .i64 r1, .int .i64 q1, .int .i64 a, .int .i64 b, .slice A m1 c, .int .i64 a2, .int .i64 b2, .slice A2 m2 c2] 100)).cell? ⟨w.heap.size + 1, 3, none⟩ = some (.int .i64 q1) := (BA.out _ D0).cell 3; have k4 : ((w.alloc (.cells (cellsB root).toArray 24)).alloc (.cells #[.int .i64 r0, .int .i64 q0, .int .i64 r1, .int .i64 q1, .int .i64 a, .int .i64 b, .slice A m1 c, .int .i64 a2, .int .i64 b2, .slice A2 m2 c2] 100)).cell? ⟨w.heap.size + 1, 4, none⟩ = some (.int .i64 a) := (BA.out _ D0).cell 4; have k5 : ((w.alloc (.cells (cellsB root).toArray 24)).alloc (.cells #[.int .i64 r0, .int .i64 q0, .int .i64 r1, .int .i64 q1, .int .i64 a, .int .i64 b, .slice A m1 c, .int .i64 a2, .int .i64 b2, .slice A2 m2 c2] 100)).cell? ⟨w.heap.size + 1, 5, none⟩ = some (.int .i64 b) := (BA.out _ D0).cell 5; have k6 : ((w.alloc (.cells (cellsB root).toArray 24)).alloc (.cells #[.int .i64 r0, .int .i64 q0, .int .i64 r1, .int .i64 q1, .int .i64 a, .int .i64 b, .slice A m1 c, .int .i64 a2, .int .i64 b2, .slice A2 m2 c2] 100)).cell? ⟨w.heap.size + 1, 6, none⟩ = some (.slice A m1 c) := (BA.out _ D0).cell 6; have k7 : ((w.alloc (.cells (cellsB root).toArray 24)).alloc (.cells #[.int .i64 r0, .int .i64 q0, .int .i64 r1, .int .i64 q1, .int .i64 a, .int .i64 b, .slice A m1 c, .int .i64 a2, .int .i64 b2, .slice A2 m2 c2] 100)).cell? ⟨w.heap.size + 1, 7, none⟩ = some (.int .i64 a2) := (BA.out _ D0).cell 7; have k8 : ((w.alloc (.cells (cellsB root).toArray 24)).alloc (.cells #[.int .i64 r0, .int .i64 q0, .int .i64 r1, .int .i64 q1, .int .i64 a, .int .i64 b, .slice A m1 c, .int .i64 a2, .int .i64 b2, .slice A2 m2 c2] 100)).cell? ⟨w.heap.size + 1, 8, none⟩ = some (.int .i64 b2) := (BA.out _ D0).cell 8; have k9 : ((w.alloc (.cells (cellsB root).toArray 24)).alloc (.cells #[.int .i64 r0, .int .i64 q0, .int .i64 r1, .int .i64 q1, .int .i64 a, .int .i64 b, .slice A m1 c, .int .i64 a2, .int .i64 b2, .slice A2 m2 c2] 100)).cell? ⟨w.heap.size + 1, 9, none⟩ = some (.slice A2 m2 c2) := (BA.out _ D0).cell 9
  have HL0 : Hid (∀ W, Calls Tryz.prog 117 #[.agg #[.int .i64 r0, .int .i64 q0]] W fun e w' => e = .returned (.agg (cellsB (leafE (r0, q0))).toArray) ∧ Below W.heap.size W w') := fun W => leaf_any r0 q0 W x0
  have HL1 : Hid (∀ W, Calls Tryz.prog 117 #[.agg #[.int .i64 r1, .int .i64 q1]] W fun e w' => e = .returned (.agg (cellsB (leafE (r1, q1))).toArray) ∧ Below W.heap.size W w') := fun W => leaf_any r1 q1 W x1
  obtain ⟨⟨p1, p2, p3, p4⟩, p5⟩ := fitsB_iff.1 x2
  obtain ⟨⟨p6, p7, p8, p9⟩, p10⟩ := fitsB_iff.1 x3
  have HG0 : Hid (∀ W, Below w.heap.size w W → Calls Tryz.prog 80 #[.agg (cellsB root).toArray, .agg (cellsB (leafE (r0, q0))).toArray, .agg #[.int .i64 a, .int .i64 b, .slice A m1 c]] W fun e w' => e = .returned (.bool v0) ∧ Below W.heap.size W w') := fun W hW => by
    have := gives_any root (leafE (r0, q0)) a.toNat b.toNat P A c W hm1 hr (leafE_length _) (by omega) (by omega) (by omega) (by rw [hm1]; exact p5) (h.below hW)
    rwa [Int.toNat_of_nonneg (by omega), Int.toNat_of_nonneg (by omega), hv0] at this
  have HG1 : Hid (∀ W, Below w.heap.size w W → Calls Tryz.prog 80 #[.agg (cellsB root).toArray, .agg (cellsB (leafE (r1, q1))).toArray, .agg #[.int .i64 a2, .int .i64 b2, .slice A2 m2 c2]] W fun e w' => e = .returned (.bool v1) ∧ Below W.heap.size W w') := fun W hW => by
    have := gives_any root (leafE (r1, q1)) a2.toNat b2.toNat R A2 c2 W hm2 hr (leafE_length _) (by omega) (by omega) (by omega) (by rw [hm2]; exact p10) (h2.below hW)
    rwa [Int.toNat_of_nonneg (by omega), Int.toNat_of_nonneg (by omega), hv1] at this
  have HR := Lib.hid hr
  have HLL0 := Lib.hid (leafE_length (r0, q0))
  have HLL1 := Lib.hid (leafE_length (r1, q1))
  generalize leafE (r0, q0) = l0 at *
  generalize leafE (r1, q1) = l1 at *
  clear hr hm1 hm2 h h2 h3 h4 hml1 hml2 hv x0 x1 x2 x3 p1 p2 p3 p4 p5 p6 p7 p8 p9 p10 g1 g2 g3 n0 n1 n2 n3 hv0 hv1
  go_enter Tryz.func54, Tryz.ntmps54
  go_wp2_with (first
    | (go_at_call 116; (with_reducible refine (HE0.out _).mono ?_); rintro e w1 ⟨rfl, hb1⟩; clear k0 k1 k2 k3 k4 k5 k6 k7 k8 k9; have D1 := bel_on D0 hb1; clear hb1; have Q1 := BA.out _ D1; have k0 : w1.cell? ⟨w.heap.size + 1, 0, none⟩ = some (.int .i64 r0) := Q1.cell 0; have k1 : w1.cell? ⟨w.heap.size + 1, 1, none⟩ = some (.int .i64 q0) := Q1.cell 1; have k2 : w1.cell? ⟨w.heap.size + 1, 2, none⟩ = some (.int .i64 r1) := Q1.cell 2; have k3 : w1.cell? ⟨w.heap.size + 1, 3, none⟩ = some (.int .i64 q1) := Q1.cell 3; have k4 : w1.cell? ⟨w.heap.size + 1, 4, none⟩ = some (.int .i64 a) := Q1.cell 4; have k5 : w1.cell? ⟨w.heap.size + 1, 5, none⟩ = some (.int .i64 b) := Q1.cell 5; have k6 : w1.cell? ⟨w.heap.size + 1, 6, none⟩ = some (.slice A m1 c) := Q1.cell 6; have k7 : w1.cell? ⟨w.heap.size + 1, 7, none⟩ = some (.int .i64 a2) := Q1.cell 7; have k8 : w1.cell? ⟨w.heap.size + 1, 8, none⟩ = some (.int .i64 b2) := Q1.cell 8; have k9 : w1.cell? ⟨w.heap.size + 1, 9, none⟩ = some (.slice A2 m2 c2) := Q1.cell 9; clear Q1)
    | (go_at_call 116; (with_reducible refine (HE1.out _).mono ?_); rintro e w2 ⟨rfl, hb2⟩; clear k0 k1 k2 k3 k4 k5 k6 k7 k8 k9; have D2 := bel_on D1 hb2; clear hb2; have Q2 := BA.out _ D2; have k0 : w2.cell? ⟨w.heap.size + 1, 0, none⟩ = some (.int .i64 r0) := Q2.cell 0; have k1 : w2.cell? ⟨w.heap.size + 1, 1, none⟩ = some (.int .i64 q0) := Q2.cell 1; have k2 : w2.cell? ⟨w.heap.size + 1, 2, none⟩ = some (.int .i64 r1) := Q2.cell 2; have k3 : w2.cell? ⟨w.heap.size + 1, 3, none⟩ = some (.int .i64 q1) := Q2.cell 3; have k4 : w2.cell? ⟨w.heap.size + 1, 4, none⟩ = some (.int .i64 a) := Q2.cell 4; have k5 : w2.cell? ⟨w.heap.size + 1, 5, none⟩ = some (.int .i64 b) := Q2.cell 5; have k6 : w2.cell? ⟨w.heap.size + 1, 6, none⟩ = some (.slice A m1 c) := Q2.cell 6; have k7 : w2.cell? ⟨w.heap.size + 1, 7, none⟩ = some (.int .i64 a2) := Q2.cell 7; have k8 : w2.cell? ⟨w.heap.size + 1, 8, none⟩ = some (.int .i64 b2) := Q2.cell 8; have k9 : w2.cell? ⟨w.heap.size + 1, 9, none⟩ = some (.slice A2 m2 c2) := Q2.cell 9; clear Q2)
    | (go_at_call 73; (with_reducible refine (HF0.out _).mono ?_); rintro e w3 ⟨rfl, hb3⟩; clear k0 k1 k2 k3 k4 k5 k6 k7 k8 k9; have D3 := bel_on D2 hb3; clear hb3; have Q3 := BA.out _ D3; have k0 : w3.cell? ⟨w.heap.size + 1, 0, none⟩ = some (.int .i64 r0) := Q3.cell 0; have k1 : w3.cell? ⟨w.heap.size + 1, 1, none⟩ = some (.int .i64 q0) := Q3.cell 1; have k2 : w3.cell? ⟨w.heap.size + 1, 2, none⟩ = some (.int .i64 r1) := Q3.cell 2; have k3 : w3.cell? ⟨w.heap.size + 1, 3, none⟩ = some (.int .i64 q1) := Q3.cell 3; have k4 : w3.cell? ⟨w.heap.size + 1, 4, none⟩ = some (.int .i64 a) := Q3.cell 4; have k5 : w3.cell? ⟨w.heap.size + 1, 5, none⟩ = some (.int .i64 b) := Q3.cell 5; have k6 : w3.cell? ⟨w.heap.size + 1, 6, none⟩ = some (.slice A m1 c) := Q3.cell 6; have k7 : w3.cell? ⟨w.heap.size + 1, 7, none⟩ = some (.int .i64 a2) := Q3.cell 7; have k8 : w3.cell? ⟨w.heap.size + 1, 8, none⟩ = some (.int .i64 b2) := Q3.cell 8; have k9 : w3.cell? ⟨w.heap.size + 1, 9, none⟩ = some (.slice A2 m2 c2) := Q3.cell 9; clear Q3)
    | (go_at_call 73; (with_reducible refine (HF1.out _).mono ?_); rintro e w4 ⟨rfl, hb4⟩; clear k0 k1 k2 k3 k4 k5 k6 k7 k8 k9; have D4 := bel_on D3 hb4; clear hb4; have Q4 := BA.out _ D4; have k0 : w4.cell? ⟨w.heap.size + 1, 0, none⟩ = some (.int .i64 r0) := Q4.cell 0; have k1 : w4.cell? ⟨w.heap.size + 1, 1, none⟩ = some (.int .i64 q0) := Q4.cell 1; have k2 : w4.cell? ⟨w.heap.size + 1, 2, none⟩ = some (.int .i64 r1) := Q4.cell 2; have k3 : w4.cell? ⟨w.heap.size + 1, 3, none⟩ = some (.int .i64 q1) := Q4.cell 3; have k4 : w4.cell? ⟨w.heap.size + 1, 4, none⟩ = some (.int .i64 a) := Q4.cell 4; have k5 : w4.cell? ⟨w.heap.size + 1, 5, none⟩ = some (.int .i64 b) := Q4.cell 5; have k6 : w4.cell? ⟨w.heap.size + 1, 6, none⟩ = some (.slice A m1 c) := Q4.cell 6; have k7 : w4.cell? ⟨w.heap.size + 1, 7, none⟩ = some (.int .i64 a2) := Q4.cell 7; have k8 : w4.cell? ⟨w.heap.size + 1, 8, none⟩ = some (.int .i64 b2) := Q4.cell 8; have k9 : w4.cell? ⟨w.heap.size + 1, 9, none⟩ = some (.slice A2 m2 c2) := Q4.cell 9; clear Q4))
  have RS : Hid (∀ W, Below ((w.alloc (.cells (cellsB root).toArray 24)).alloc (.cells #[.int .i64 r0, .int .i64 q0, .int .i64 r1, .int .i64 q1, .int .i64 a, .int .i64 b, .slice A m1 c, .int .i64 a2, .int .i64 b2, .slice A2 m2 c2] 100)).heap.size ((w.alloc (.cells (cellsB root).toArray 24)).alloc (.cells #[.int .i64 r0, .int .i64 q0, .int .i64 r1, .int .i64 q1, .int .i64 a, .int .i64 b, .slice A m1 c, .int .i64 a2, .int .i64 b2, .slice A2 m2 c2] 100)) W → W.rangeAt w.heap.size 0 (cellsB root) ∧ W.rangeAt (w.heap.size + 1) 0 [.int .i64 r0, .int .i64 q0] ∧ W.rangeAt (w.heap.size + 1) 2 [.int .i64 r1, .int .i64 q1] ∧ W.rangeAt (w.heap.size + 1) 4 [.int .i64 a, .int .i64 b, .slice A m1 c] ∧ W.rangeAt (w.heap.size + 1) 7 [.int .i64 a2, .int .i64 b2, .slice A2 m2 c2]) := fun W hW => by
    have hB := BA.out W hW
    refine ⟨(BR.out W hW).range, ?_, ?_, ?_, ?_⟩
    · exact rangeOf hB 0 _ rfl
    · exact rangeOf hB 2 _ rfl
    · exact rangeOf hB 4 _ rfl
    · exact rangeOf hB 7 _ rfl
  have D4d := D4.drew
  refine wp_region_noPanic ?_
  refine wp_region_held_drew (S := fun w' => w'.rangeAt w.heap.size 0 (cellsB root) ∧ w'.rangeAt (w.heap.size + 1) 0 [.int .i64 r0, .int .i64 q0] ∧ w'.rangeAt (w.heap.size + 1) 2 [.int .i64 r1, .int .i64 q1] ∧ w'.rangeAt (w.heap.size + 1) 4 [.int .i64 a, .int .i64 b, .slice A m1 c] ∧ w'.rangeAt (w.heap.size + 1) 7 [.int .i64 a2, .int .i64 b2, .slice A2 m2 c2]) (by kernel_rfl) (RS.out _ D4d) (fun hS => ?_)
  refine hd_take 0 (_) rfl rfl (by kernel_rfl) (by kernel_rfl) (by kernel_rfl) (fun _ _ _ h => h) (fun w _ => by go_simp <;> rfl) hS ?_
  simp only [List.getElem_toArray, List.getElem_cons_succ, List.getElem_cons_zero, Act.put, List.setIfInBounds_toArray, List.set_cons_zero, List.set_cons_succ]
  refine hd_take 1 (_) rfl rfl (by kernel_rfl) (by kernel_rfl) (by kernel_rfl) (fun _ _ _ h => h) (fun w _ => by go_simp <;> rfl) hS ?_
  simp only [List.getElem_toArray, List.getElem_cons_succ, List.getElem_cons_zero, Act.put, List.setIfInBounds_toArray, List.set_cons_zero, List.set_cons_succ]
  refine hg_take 2 (_) rfl rfl (by kernel_rfl) (by kernel_rfl) (by kernel_rfl) (fun _ _ _ h => h) (fun w _ => by go_simp <;> rfl) hS ?_
  simp only [List.getElem_toArray, List.getElem_cons_succ, List.getElem_cons_zero, Act.put, List.setIfInBounds_toArray, List.set_cons_zero, List.set_cons_succ]
  refine hd_take 3 (_) rfl rfl (by kernel_rfl) (by kernel_rfl) (by kernel_rfl) (fun _ _ _ h => h) (fun w _ => by go_simp <;> rfl) hS ?_
  simp only [List.getElem_toArray, List.getElem_cons_succ, List.getElem_cons_zero, Act.put, List.setIfInBounds_toArray, List.set_cons_zero, List.set_cons_succ]
  refine hd_take 4 (_) rfl rfl (by kernel_rfl) (by kernel_rfl) (by kernel_rfl) (fun _ _ _ h => h) (fun w _ => by go_simp <;> rfl) hS ?_
  simp only [List.getElem_toArray, List.getElem_cons_succ, List.getElem_cons_zero, Act.put, List.setIfInBounds_toArray, List.set_cons_zero, List.set_cons_succ]
  refine hg_load 5 w.heap.size 0 (cellsB root) _ _ rfl rfl rfl (by kernel_rfl) (by kernel_rfl) (by kernel_rfl) (fun _ _ _ h => h) rfl (fun w hw => hw.1) under_key rfl (key_info HR.out) hS ?_
  refine hg_take 6 (_) rfl rfl (by kernel_rfl) (by kernel_rfl) (by kernel_rfl) (fun _ _ _ h => h) (fun w _ => by go_simp <;> rfl) hS ?_
  refine hg_take 9 (_) rfl rfl (by kernel_rfl) (by kernel_rfl) (by kernel_rfl) (fun _ _ _ h => h) (fun w _ => by go_simp <;> rfl) hS ?_
  simp only [List.getElem_toArray, List.getElem_cons_succ, List.getElem_cons_zero, Act.put, List.setIfInBounds_toArray, List.set_cons_zero, List.set_cons_succ]
  refine hg_load 7 (w.heap.size + 1) 0 ([.int .i64 r0, .int .i64 q0]) _ _ rfl rfl rfl (by kernel_rfl) (by kernel_rfl) (by kernel_rfl) (fun _ _ _ h => h) rfl (fun w hw => hw.2.1) Tryz.underlying98 rfl (by kernel_rfl) hS ?_
  refine hg_load 10 (w.heap.size + 1) 4 ([.int .i64 a, .int .i64 b, .slice A m1 c]) _ _ rfl rfl rfl (by kernel_rfl) (by kernel_rfl) (by kernel_rfl) (fun _ _ _ h => h) rfl (fun w hw => hw.2.2.2.1) Tryz.underlying27 rfl (by kernel_rfl) hS ?_
  simp only [List.getElem_toArray, List.getElem_cons_succ, List.getElem_cons_zero, Act.put, List.setIfInBounds_toArray, List.set_cons_zero, List.set_cons_succ]
  refine hg_calls 8 117 #[.agg #[.int .i64 r0, .int .i64 q0]] rfl rfl (by kernel_rfl) (by go_simp <;> rfl) ?_
  refine (HL0.out _).mono ?_
  rintro e w5 ⟨rfl, hb5⟩
  have D5 := bel_on D4d hb5
  have hS5 := RS.out _ D5
  refine ⟨_, rfl, hS5, ?_⟩
  simp only [List.getElem_toArray, List.getElem_cons_succ, List.getElem_cons_zero, Act.put, List.setIfInBounds_toArray, List.set_cons_zero, List.set_cons_succ]
  refine hg_calls 11 80 #[.agg (cellsB root).toArray, .agg (cellsB l0).toArray, .agg #[.int .i64 a, .int .i64 b, .slice A m1 c]] rfl rfl (by kernel_rfl) (by go_simp <;> rfl) ?_
  refine (HG0.out _ (bel_on b0 D5)).mono ?_
  rintro e w6 ⟨rfl, hb6⟩
  have D6 := bel_on D5 hb6
  have hS6 := RS.out _ D6
  refine ⟨_, rfl, hS6, ?_⟩
  simp only [List.getElem_toArray, List.getElem_cons_succ, List.getElem_cons_zero, Act.put, List.setIfInBounds_toArray, List.set_cons_zero, List.set_cons_succ]
  refine hd_take 12 (_) rfl rfl (by kernel_rfl) (by kernel_rfl) (by kernel_rfl) (fun _ _ _ h => h) (fun w _ => by go_simp <;> rfl) hS6 ?_
  simp only [List.getElem_toArray, List.getElem_cons_succ, List.getElem_cons_zero, Act.put, List.setIfInBounds_toArray, List.set_cons_zero, List.set_cons_succ]
  refine hd_take 13 (_) rfl rfl (by kernel_rfl) (by kernel_rfl) (by kernel_rfl) (fun _ _ _ h => h) (fun w _ => by go_simp <;> rfl) hS6 ?_
  simp only [List.getElem_toArray, List.getElem_cons_succ, List.getElem_cons_zero, Act.put, List.setIfInBounds_toArray, List.set_cons_zero, List.set_cons_succ]
  cases v0 with
  | false =>
    refine hg_skip 14 rfl rfl (by kernel_rfl) (by kernel_rfl) (by kernel_rfl) (fun _ _ _ h => h) hS6 ?_
    refine hg_skip 15 rfl rfl (by kernel_rfl) (by kernel_rfl) (by kernel_rfl) (fun _ _ _ h => h) hS6 ?_
    refine hg_skip 16 rfl rfl (by kernel_rfl) (by kernel_rfl) (by kernel_rfl) (fun _ _ _ h => h) hS6 ?_
    refine hg_skip 17 rfl rfl (by kernel_rfl) (by kernel_rfl) (by kernel_rfl) (fun _ _ _ h => h) hS6 ?_
    refine hg_skip 18 rfl rfl (by kernel_rfl) (by kernel_rfl) (by kernel_rfl) (fun _ _ _ h => h) hS6 ?_
    refine hg_skip 19 rfl rfl (by kernel_rfl) (by kernel_rfl) (by kernel_rfl) (fun _ _ _ h => h) hS6 ?_
    refine hg_skip 20 rfl rfl (by kernel_rfl) (by kernel_rfl) (by kernel_rfl) (fun _ _ _ h => h) hS6 ?_
    simp only [List.getElem_toArray, List.getElem_cons_succ, List.getElem_cons_zero, Act.put, List.setIfInBounds_toArray, List.set_cons_zero, List.set_cons_succ]
    refine hd_take 21 (_) rfl rfl (by kernel_rfl) (by kernel_rfl) (by kernel_rfl) (fun _ _ _ h => h) (fun w _ => by go_simp <;> rfl) hS6 ?_
    simp only [List.getElem_toArray, List.getElem_cons_succ, List.getElem_cons_zero, Act.put, List.setIfInBounds_toArray, List.set_cons_zero, List.set_cons_succ]
    refine hd_take 22 (_) rfl rfl (by kernel_rfl) (by kernel_rfl) (by kernel_rfl) (fun _ _ _ h => h) (fun w _ => by go_simp <;> rfl) hS6 ?_
    simp only [List.getElem_toArray, List.getElem_cons_succ, List.getElem_cons_zero, Act.put, List.setIfInBounds_toArray, List.set_cons_zero, List.set_cons_succ]
    refine hd_take 23 (_) rfl rfl (by kernel_rfl) (by kernel_rfl) (by kernel_rfl) (fun _ _ _ h => h) (fun w _ => by go_simp <;> rfl) hS6 ?_
    simp only [List.getElem_toArray, List.getElem_cons_succ, List.getElem_cons_zero, Act.put, List.setIfInBounds_toArray, List.set_cons_zero, List.set_cons_succ]
    refine wpAnyH_done (by kernel_rfl) (NoPanic.normal ?_) _
    clear hS hS5 hS6
    go_wp2_with fail
    go_ret2
    rw [HS.out]
    exact ⟨rfl, bel_on b0 D6⟩
  | true =>
    refine hg_load 14 w.heap.size 0 (cellsB root) _ _ rfl rfl rfl (by kernel_rfl) (by kernel_rfl) (by kernel_rfl) (fun _ _ _ h => h) rfl (fun w hw => hw.1) under_key rfl (key_info HR.out) hS6 ?_
    refine hg_take 15 (_) rfl rfl (by kernel_rfl) (by kernel_rfl) (by kernel_rfl) (fun _ _ _ h => h) (fun w _ => by go_simp <;> rfl) hS6 ?_
    refine hg_take 18 (_) rfl rfl (by kernel_rfl) (by kernel_rfl) (by kernel_rfl) (fun _ _ _ h => h) (fun w _ => by go_simp <;> rfl) hS6 ?_
    simp only [List.getElem_toArray, List.getElem_cons_succ, List.getElem_cons_zero, Act.put, List.setIfInBounds_toArray, List.set_cons_zero, List.set_cons_succ]
    refine hg_load 16 (w.heap.size + 1) 2 ([.int .i64 r1, .int .i64 q1]) _ _ rfl rfl rfl (by kernel_rfl) (by kernel_rfl) (by kernel_rfl) (fun _ _ _ h => h) rfl (fun w hw => hw.2.2.1) Tryz.underlying98 rfl (by kernel_rfl) hS6 ?_
    refine hg_load 19 (w.heap.size + 1) 7 ([.int .i64 a2, .int .i64 b2, .slice A2 m2 c2]) _ _ rfl rfl rfl (by kernel_rfl) (by kernel_rfl) (by kernel_rfl) (fun _ _ _ h => h) rfl (fun w hw => hw.2.2.2.2) Tryz.underlying27 rfl (by kernel_rfl) hS6 ?_
    simp only [List.getElem_toArray, List.getElem_cons_succ, List.getElem_cons_zero, Act.put, List.setIfInBounds_toArray, List.set_cons_zero, List.set_cons_succ]
    refine hg_calls 17 117 #[.agg #[.int .i64 r1, .int .i64 q1]] rfl rfl (by kernel_rfl) (by go_simp <;> rfl) ?_
    refine (HL1.out _).mono ?_
    rintro e w7 ⟨rfl, hb7⟩
    have D7 := bel_on D6 hb7
    have hS7 := RS.out _ D7
    refine ⟨_, rfl, hS7, ?_⟩
    simp only [List.getElem_toArray, List.getElem_cons_succ, List.getElem_cons_zero, Act.put, List.setIfInBounds_toArray, List.set_cons_zero, List.set_cons_succ]
    refine hg_calls 20 80 #[.agg (cellsB root).toArray, .agg (cellsB l1).toArray, .agg #[.int .i64 a2, .int .i64 b2, .slice A2 m2 c2]] rfl rfl (by kernel_rfl) (by go_simp <;> rfl) ?_
    refine (HG1.out _ (bel_on b0 D7)).mono ?_
    rintro e w8 ⟨rfl, hb8⟩
    have D8 := bel_on D7 hb8
    have hS8 := RS.out _ D8
    refine ⟨_, rfl, hS8, ?_⟩
    simp only [List.getElem_toArray, List.getElem_cons_succ, List.getElem_cons_zero, Act.put, List.setIfInBounds_toArray, List.set_cons_zero, List.set_cons_succ]
    refine hd_take 21 (_) rfl rfl (by kernel_rfl) (by kernel_rfl) (by kernel_rfl) (fun _ _ _ h => h) (fun w _ => by go_simp <;> rfl) hS8 ?_
    simp only [List.getElem_toArray, List.getElem_cons_succ, List.getElem_cons_zero, Act.put, List.setIfInBounds_toArray, List.set_cons_zero, List.set_cons_succ]
    refine hd_take 22 (_) rfl rfl (by kernel_rfl) (by kernel_rfl) (by kernel_rfl) (fun _ _ _ h => h) (fun w _ => by go_simp <;> rfl) hS8 ?_
    simp only [List.getElem_toArray, List.getElem_cons_succ, List.getElem_cons_zero, Act.put, List.setIfInBounds_toArray, List.set_cons_zero, List.set_cons_succ]
    refine hd_take 23 (_) rfl rfl (by kernel_rfl) (by kernel_rfl) (by kernel_rfl) (fun _ _ _ h => h) (fun w _ => by go_simp <;> rfl) hS8 ?_
    simp only [List.getElem_toArray, List.getElem_cons_succ, List.getElem_cons_zero, Act.put, List.setIfInBounds_toArray, List.set_cons_zero, List.set_cons_succ]
    refine wpAnyH_done (by kernel_rfl) (NoPanic.normal ?_) _
    clear hS hS5 hS6 hS7 hS8
    go_wp2_with fail
    go_ret2
    rw [HS.out]
    exact ⟨rfl, bel_on b0 D8⟩

theorem VerifyOff_any (root : List UInt8) (u r0 q0 r1 q1 a b a2 b2 : Int) (P R : List (List UInt8)) (A A2 : Option Addr) (c c2 : Nat) (w : World) {m1 m2 : Nat} (hr : root.length = 16) (hm1 : P.length = m1) (hm2 : R.length = m2) (h : KR w A c P) (h2 : KR w A2 c2 R) :
    Calls Tryz.prog 54 #[.agg (cellsB root).toArray, .int .i64 u, .agg #[.int .i64 r0, .int .i64 q0, .int .i64 r1, .int .i64 q1, .int .i64 a, .int .i64 b, .slice A m1 c, .int .i64 a2, .int .i64 b2, .slice A2 m2 c2]] w fun e w' => e = .returned (.tuple #[.bool (voS root u (r0, q0) (r1, q1) a b P a2 b2 R).1, .int .i64 (voS root u (r0, q0) (r1, q1) a b P a2 b2 R).2]) ∧ Below w.heap.size w w' := by
  by_cases hu : u < 0 ∨ 64 ≤ u
  · exact voff_out root u r0 q0 r1 q1 a b a2 b2 P R A A2 c c2 w hr hm1 hm2 h h2 hu
  · cases hv : okV (r0, q0) (r1, q1) a b m1 a2 b2 m2 with
    | false => exact voff_unfit root u r0 q0 r1 q1 a b a2 b2 P R A A2 c c2 w hr hm1 hm2 h h2 (by omega) (by omega) hv
    | true =>
      cases hn : nearB (r0, q0) (r1, q1) u a b a2 b2 with
      | false => exact voff_far root u r0 q0 r1 q1 a b a2 b2 P R A A2 c c2 w hr hm1 hm2 h h2 (by omega) (by omega) hv hn
      | true =>
        obtain ⟨n0, n1, n2, n3⟩ := nearB_iff.1 hn
        exact voff_near root u r0 q0 r1 q1 a b a2 b2 P R A A2 c c2 w hr hm1 hm2 h h2 (by omega) (by omega) hv n0 n1 n2 n3
end Go.Proofs.YtinpiodfpnbllaaGreatDoor
