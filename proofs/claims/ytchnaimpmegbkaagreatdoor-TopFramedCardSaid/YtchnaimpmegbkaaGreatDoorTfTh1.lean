/-
  Lemmas and contracts, joined.
-/
import Derived.Laws.Rows
import Derived.Deep.MidRow
import Derived.Deep.RegionHeld3
import Derived.Laws.ResultCell
import Derived.Great.BuildSlice
import Derived.Laws.CopyOwn
import Derived.Lib.AppendZerosOnto
import Derived.Test.YtchnaimpmegbkaaGreatDoorTfTc1
import Derived.Test.YtchnaimpmegbkaaGreatDoorTfTw1
set_option linter.unusedSimpArgs false
set_option linter.unusedVariables false
set_option linter.unnecessarySimpa false
/- Rows of bytes that the call makes; bytes with an error. -/
namespace Go.Proofs.YtchnaimpmegbkaaGreatDoor
open Go.RowKit
set_option linter.unusedVariables false

/-- A row of zeros. -/
theorem made_bytes (n : Nat) : madeCells #[Value.int .u8 0] n = (cellsB (List.replicate n 0)).toArray := by
  apply Array.toList_inj.1
  rw [toList_madeCells_one]
  simp [cellsB]
theorem Blk.ob {B : Nat} {w : World} {g : Nat} {l : List UInt8} {n c : Nat} (h : Blk w g 5 (cellsB l).toArray) (hB : B ≤ g) (hn : l.length = n) (hc : c = n) (hc2 : n ≤ 1000000) : OB B w (some ⟨g, 0, none⟩) c l := by
  subst hn hc
  exact ⟨by simp [cellsB], .inr ⟨g, _, _, rfl, hB, h, Nat.le_refl _, by simp only [maxLen]; omega, by simp [cellsB], List.take_of_length_le (by simp [cellsB])⟩⟩
end Go.Proofs.YtchnaimpmegbkaaGreatDoor

/- The stream of a key: the program's. -/
namespace Go.Proofs.YtchnaimpmegbkaaGreatDoor
open Go.RowKit
set_option linter.unusedVariables false
attribute [local go_sem] run_storeCells_key

theorem xor_u8 (a b : UInt8) : bits .xor .u8 (a.toNat : Int) (b.toNat : Int) = ((a ^^^ b).toNat : Int) := by
  rw [u8_xor_nat _ _ a.toNat_lt b.toNat_lt, UInt8.toNat_xor]
end Go.Proofs.YtchnaimpmegbkaaGreatDoor

/- The reference's Xor. -/
namespace Go.Proofs.YtchnaimpmegbkaaGreatDoor
open Go.RowKit
set_option linter.unusedVariables false
attribute [local go_sem] run_storeCells_key

/-- Two blocks, xor. -/
def xorS (a b : List UInt8) : List UInt8 := (List.range 16).map fun j => a.getD j 0 ^^^ b.getD j 0
def xoP (a b : List UInt8) (i : Nat) : List UInt8 := (List.range 16).map fun j => if j < i then a.getD j 0 ^^^ b.getD j 0 else a.getD j 0
theorem xorS_length (a b : List UInt8) : (xorS a b).length = 16 := by simp [xorS]
theorem xoP_length (a b : List UInt8) (i : Nat) : (xoP a b i).length = 16 := by simp [xoP]
theorem xoP_zero {a : List UInt8} (b : List UInt8) (h : a.length = 16) : xoP a b 0 = a := by
  refine List.ext_getElem (by simp [xoP, h]) fun i h1 h2 => ?_
  simp [xoP, List.getD, List.getElem?_eq_getElem h2]
theorem xoP_fin (a b : List UInt8) : xoP a b 16 = xorS a b := by
  refine List.ext_getElem (by simp [xoP, xorS]) fun i h1 h2 => ?_
  have : i < 16 := by simpa [xoP] using h1
  simp [xoP, xorS, this]
theorem xoP_at (a b : List UInt8) {i : Nat} (hi : i < 16) : (xoP a b i).getD i 0 = a.getD i 0 := by
  simp [xoP, List.getD, List.getElem?_range hi]
theorem xoP_set {a b : List UInt8} {i : Nat} (hi : i < 16) : (xoP a b i).set i (a.getD i 0 ^^^ b.getD i 0) = xoP a b (i + 1) := by
  refine List.ext_getElem (by simp [xoP]) fun j h1 h2 => ?_
  simp only [xoP, List.getElem_set, List.getElem_map, List.getElem_range]
  by_cases e : i = j
  · subst e; simp
  · rw [if_neg e]
    have : (j < i) ↔ (j < i + 1) := by omega
    simp [this]

end Go.Proofs.YtchnaimpmegbkaaGreatDoor

/- In a region that draws its order: the load of a whole row, the row kept as it is. -/
namespace Go.Proofs.YtchnaimpmegbkaaGreatDoor
open Go.RowKit
set_option linter.unusedVariables false

end Go.Proofs.YtchnaimpmegbkaaGreatDoor

/- Recordings as cells; the load of a field of 16 bytes. -/
namespace Go.Proofs.YtchnaimpmegbkaaGreatDoor
open Go.RowKit
set_option linter.unusedVariables false

theorem key_info {x : List UInt8} (hx : x.length = 16) : (Tryz.prog.info? 23).map (·.size) = some (cellsB x).length := by
  rw [show (Tryz.prog.info? 23).map (·.size) = some 16 from by kernel_rfl, cellsB_length, hx]
end Go.Proofs.YtchnaimpmegbkaaGreatDoor

/- Whole keys in regions that draw: ranges of cells. -/
namespace Go.Proofs.YtchnaimpmegbkaaGreatDoor
open Go.RowKit
set_option linter.unusedVariables false

theorem bel_on {w0 w w' : World} (h1 : Below w0.heap.size w0 w) (h2 : Below w.heap.size w w') : Below w0.heap.size w0 w' := h1.trans (h2.mono h1.size)
theorem Blk.range {w : World} {g : Nat} {t : TypeId} {cs : List Value} (h : Blk w g t cs.toArray) : w.rangeAt g 0 cs := fun j v hv => by rw [Nat.zero_add, h.cell j]; simpa using hv
theorem Blk.there {w : World} {g : Nat} {t : TypeId} {cs : Array Value} (h : Blk w g t cs) {o n : Nat} (hn : o + n ≤ cs.size) : w.there g o n := fun j hj => by
  refine ⟨?_, h.frozen _⟩
  rw [h.cell, Array.getElem?_eq_getElem (by omega)]; rfl
theorem range_below {w w' : World} {g o : Nat} {cs : List Value} (h : w.rangeAt g o cs) (hb : Below w.heap.size w w') : w'.rangeAt g o cs := fun j v hv => by
  have h1 := h j v hv
  rw [hb.cell (World.block_lt_of_cell? w _ h1)]
  exact h1
theorem range_setRow {w : World} {g o g' : Nat} {cs : List Value} (h : w.rangeAt g o cs) (hne : g ≠ g') (cs' : Array Value) : (w.setRow g' cs').rangeAt g o cs := fun j v hv => by
  rw [← h j v hv]
  exact World.cell?_of_block (setRow_other w g' g cs' hne)
theorem cells_one (l : List UInt8) : ∀ v ∈ cellsB l, v.oneCell' = true := cellsB_one l

section
variable {P : Program} {md : Region.Mode} {ops : Array Oper} {Q : Exit → Act → World → Prop} {S : World → Prop} {fuel : Nat} {listed : Array Bool} {a : Act} {w : World}
/-- A load of a row, or of a part of one, is taken first. -/
theorem hd_load (i : Nat) {oi : Oper} (g o : Nat) (cs : List Value) (ty : TypeId) (x : Operand) {d : TypeDesc} (hi : ops[i]? = some oi) (ho : oi.op = .load ty x) (hg : oi.guard = none)
    (hs : Region.noSelect ops = true) (hf : Region.free md ops listed i = true) (hr : (Region.ready md ops listed).contains i = true) (hQ : ∀ c a w, Q (.panic c) (a.put oi.dst (.agg cs.toArray)) w → Q (.panic c) a w)
    (hx : a.eval x = .pointer (some ⟨g, o, none⟩)) (hS : ∀ w, S w → w.rangeAt g o cs) (hu : P.underlying ty = some d) (hd : d.isRow = true) (hn : (P.info? ty).map (·.size) = some cs.length) (hw : S w)
    (h : wpAnyH P md ops Q S fuel (listed.setIfInBounds i true) (a.put oi.dst (.agg cs.toArray)) w) : wpAnyH P md ops Q S (fuel + 1) listed a w :=
  wpAnyH_take hi hs hf hr hQ (yieldsIf_load_mid (by simp [Region.wanted, hg]) ty x ho g o hx cs d hS hu hd hn) hw h
/-- What yields a value in every world in question is taken first. -/
theorem hd_take (i : Nat) {oi : Oper} (v : Value) (hi : ops[i]? = some oi) (hg : oi.guard = none)
    (hs : Region.noSelect ops = true) (hf : Region.free md ops listed i = true) (hr : (Region.ready md ops listed).contains i = true) (hQ : ∀ c a w, Q (.panic c) (a.put oi.dst v) w → Q (.panic c) a w)
    (hy : ∀ w, S w → (execOp a.eval oi).run P w = .ok (.value v) w) (hw : S w)
    (h : wpAnyH P md ops Q S fuel (listed.setIfInBounds i true) (a.put oi.dst v) w) : wpAnyH P md ops Q S (fuel + 1) listed a w :=
  wpAnyH_take hi hs hf hr hQ (.inl ⟨by simp [Region.wanted, hg], hy⟩) hw h
/-- The only one that may come up. -/
theorem hd_one (i : Nat) {oi : Oper} (hi : ops[i]? = some oi) (hg : oi.guard = none) (hr : Region.ready md ops listed = [i])
    (h : oi.wp P a w (fun a' w' => S w' ∧ wpAnyH P md ops Q S fuel (listed.setIfInBounds i true) a' w') Q) : wpAnyH P md ops Q S (fuel + 1) listed a w := by
  refine wpAnyH_all hr (by simp) fun j hj => ?_
  rw [List.mem_singleton] at hj
  subst hj
  unfold wpOp
  have hw : Region.wanted oi (yielded ops a.tmps) = true := by simp [Region.wanted, hg]
  simp only [hi, hw, if_true]
  exact .inl h
/-- A store of a whole row, the only one that may come up. -/
theorem hd_store (i : Nat) {oi : Oper} (g : Nat) (cells : Array Value) (ty : TypeId) (x y : Operand) (hi : ops[i]? = some oi) (ho : oi.op = .store ty x y) (hg : oi.guard = none) (hr : Region.ready md ops listed = [i])
    (hx : a.eval x = .pointer (some ⟨g, 0, none⟩)) (hy : a.eval y = .agg cells) {t : TypeId} {old : Array Value} (hb : Blk w g t old) (hn : (P.info? ty).map (·.size) = some cells.size) (hold : old.size = cells.size) (h1 : cells.all (·.oneCell') = true)
    (hS : S (w.setRow g cells)) (h : wpAnyH P md ops Q S fuel (listed.setIfInBounds i true) (a.put oi.dst undef) (w.setRow g cells)) : wpAnyH P md ops Q S (fuel + 1) listed a w :=
  hd_one i hi hg hr (wp_store_row ty x y ho g cells hx hy t old hb hn hold h1 ⟨hS, h⟩)
/-- A row is made, the only one that may come up. -/
theorem hd_calls (i : Nat) {oi : Oper} (f : FuncId) (args : Array Value) (hi : ops[i]? = some oi) (hg : oi.guard = none) (hr : Region.ready md ops listed = [i]) (hrun : (execOp a.eval oi).run P w = .ok (.enter f args) w)
    (h : Calls P f args w fun e w' => ∃ v, e = .returned v ∧ S w' ∧ wpAnyH P md ops Q S fuel (listed.setIfInBounds i true) (a.put oi.dst v) w') : wpAnyH P md ops Q S (fuel + 1) listed a w :=
  hd_one i hi hg hr (by
    unfold Oper.wp
    rw [hrun]
    refine h.mono fun e w' hv => ?_
    obtain ⟨v, rfl, hk⟩ := hv
    exact hk)
theorem hd_two (i j : Nat) (hr : Region.ready md ops listed = [i, j]) (h1 : wpOp P ops Q i (fun a' w' => S w' ∧ wpAnyH P md ops Q S fuel (listed.setIfInBounds i true) a' w') a w)
    (h2 : wpOp P ops Q j (fun a' w' => S w' ∧ wpAnyH P md ops Q S fuel (listed.setIfInBounds j true) a' w') a w) : wpAnyH P md ops Q S (fuel + 1) listed a w := by
  refine wpAnyH_all hr (by simp) fun k hk => ?_
  rcases List.mem_cons.1 hk with rfl | hk
  · exact h1
  · rw [List.mem_singleton] at hk; subst hk; exact h2
theorem hd_sole (i : Nat) (hr : Region.ready md ops listed = [i]) (h1 : wpOp P ops Q i (fun a' w' => S w' ∧ wpAnyH P md ops Q S fuel (listed.setIfInBounds i true) a' w') a w) : wpAnyH P md ops Q S (fuel + 1) listed a w := by
  refine wpAnyH_all hr (by simp) fun k hk => ?_
  rw [List.mem_singleton] at hk; subst hk; exact h1
theorem op_call {i : Nat} {oi : Oper} {K : Act → World → Prop} (f : FuncId) (args : Array Value) (hi : ops[i]? = some oi) (hg : oi.guard = none) (hrun : (execOp a.eval oi).run P w = .ok (.enter f args) w)
    (h : Calls P f args w fun e w' => ∃ v, e = .returned v ∧ K (a.put oi.dst v) w') : wpOp P ops Q i K a w := by
  have hw : Region.wanted oi (yielded ops a.tmps) = true := by simp [Region.wanted, hg]
  unfold wpOp
  simp only [hi, hw, if_true]
  refine .inl ?_
  unfold Oper.wp
  rw [hrun]
  refine h.mono fun e w' hv => ?_
  obtain ⟨v, rfl, hk⟩ := hv
  exact hk
theorem op_run {i : Nat} {oi : Oper} {K : Act → World → Prop} (v : Value) (w' : World) (hi : ops[i]? = some oi) (hg : oi.guard = none) (hrun : (execOp a.eval oi).run P w = .ok (.value v) w')
    (h : K (a.put oi.dst v) w') : wpOp P ops Q i K a w := by
  have hw : Region.wanted oi (yielded ops a.tmps) = true := by simp [Region.wanted, hg]
  unfold wpOp
  simp only [hi, hw, if_true]
  refine .inl ?_
  unfold Oper.wp
  rw [hrun]
  exact h
end
end Go.Proofs.YtchnaimpmegbkaaGreatDoor

/- Undoing a round. -/
namespace Go.Proofs.YtchnaimpmegbkaaGreatDoor
open Go.RowKit
set_option linter.unusedVariables false

end Go.Proofs.YtchnaimpmegbkaaGreatDoor

/- The reference's Decrypt. -/
namespace Go.Proofs.YtchnaimpmegbkaaGreatDoor
open Go.RowKit
set_option linter.unusedVariables false
attribute [local go_sem] run_storeCells_key

end Go.Proofs.YtchnaimpmegbkaaGreatDoor

/- The check of a content key: the program's. -/
namespace Go.Proofs.YtchnaimpmegbkaaGreatDoor
open Go.RowKit
set_option linter.unusedVariables false
attribute [local go_sem] run_storeCells_key

end Go.Proofs.YtchnaimpmegbkaaGreatDoor

/- The content key of a recording: the reference's. -/
namespace Go.Proofs.YtchnaimpmegbkaaGreatDoor
open Go.RowKit
set_option linter.unusedVariables false
attribute [local go_sem] run_storeCells_key run_storeCells_new

theorem equalIn_keys (w : World) (a b : List UInt8) (ha : Hid (a.length = 16)) (hb : Hid (b.length = 16)) : (Op.equalIn 10000 23 (.agg (cellsB a).toArray) (.agg (cellsB b).toArray)).run Tryz.prog w = .ok (a == b) w := by
  have := run_equalIn_bytes (P := Tryz.prog) w 9998 23 5 16 Tryz.underlying23 Tryz.underlying5 (size_one (by kernel_rfl)) a b ha.out hb.out
  unfold cellsB
  have e : (fun x : UInt8 => Value.int .u8 (x.toNat : Int)) = Extern.Stop.cell := rfl
  rw [e, this]
attribute [local go_sem] equalIn_keys

end Go.Proofs.YtchnaimpmegbkaaGreatDoor

/- The program's xor of blocks, and the step of its digest. -/
namespace Go.Proofs.YtchnaimpmegbkaaGreatDoor
open Go.RowKit
set_option linter.unusedVariables false
attribute [local go_sem] run_storeCells_key equalIn_keys

theorem xorS_self {a : List UInt8} (h : a.length = 16) : xorS a a = zeroK := by
  refine List.ext_getElem (by simp [xorS]; rfl) fun i h1 h2 => ?_
  rw [show zeroK[i] = 0 from List.getElem_replicate _]
  simp [xorS]

set_option maxHeartbeats 1000000 in
set_option maxRecDepth 100000 in
theorem xor_same (a : List UInt8) (w : World) (ha : a.length = 16) : Calls Tryz.prog 73 #[.agg (cellsB a).toArray, .agg (cellsB a).toArray] w fun e w' => e = .returned (.agg (cellsB (xorS a a)).toArray) ∧ Below w.heap.size w w' := by
  have HA := Lib.hid ha
  have HZ := Lib.hid zero16
  have HXS := Lib.hid (xorS_self ha)
  have B2 := blk_a2 w (.cells (cellsB a).toArray 23) (.cells (cellsB a).toArray 23) (cellsB zeroK).toArray 23
  have hr3 : (rowAt (((w.alloc (.cells (cellsB a).toArray 23)).alloc (.cells (cellsB a).toArray 23)).alloc (.cells (cellsB zeroK).toArray 23)) (w.heap.size + 1 + 1)).size = 16 := by rw [B2.row]; rfl
  have hf3 := B2.free
  have HB2 := Lib.hid B2
  have hlz : (cellsB zeroK).length = 16 := rfl
  have haz := all16 zeroK
  have b0 := alloc3_bel w (.cells (cellsB a).toArray 23) (.cells (cellsB a).toArray 23) (.cells (cellsB zeroK).toArray 23)
  have hz : ∀ W, (Op.equalIn 10000 23 (.agg (cellsB a).toArray) (.agg (cellsB a).toArray)).run Tryz.prog W = .ok true W := fun W => by rw [equalIn_keys W a a HA.out HA.out]; simp
  clear ha B2
  go_enter Tryz.func73, Tryz.ntmps73
  go_wp2_with (first
    | (rw [HZ.out]; refine wpList_load_row rfl 23 (.tmp 2) rfl w.heap.size rfl 23 (cellsB a).toArray (0, 0) _ (blk_a0 w _ _ _ _) under_key rfl (cellsB_size _ HA.out) ?_)
    | (refine wpList_load_row rfl 23 (.tmp 3) rfl (w.heap.size + 1) rfl 23 (cellsB a).toArray (0, 0) _ (blk_a1 w _ _ _ _) under_key rfl (cellsB_size _ HA.out) ?_)
    | (refine wpList_buildTo rfl 23 #[] rfl (some 9) rfl (cellsB zeroK).toArray (by kernel_rfl) ?_))
  exact bodyPost_ret (results_cell_row rfl _ _ (w.heap.size + 1 + 1) _ _ (0, 0) _ rfl (HB2.out.setRow (cellsB zeroK).toArray) under_key rfl (cellsB_size _ rfl)) rfl ⟨by rw [HXS.out], below_setRow b0 (by omega) _⟩

set_option maxHeartbeats 1000000 in
set_option maxRecDepth 100000 in
theorem xor_any (a b : List UInt8) (w : World) (ha : a.length = 16) (hb : b.length = 16) : Calls Tryz.prog 73 #[.agg (cellsB a).toArray, .agg (cellsB b).toArray] w fun e w' => e = .returned (.agg (cellsB (xorS a b)).toArray) ∧ Below w.heap.size w w' := by
  by_cases hab : a = b
  · subst hab; exact xor_same a w ha
  have HA := Lib.hid ha
  have HB := Lib.hid hb
  have HZ := Lib.hid zero16
  have hz : ∀ W, (Op.equalIn 10000 23 (.agg (cellsB a).toArray) (.agg (cellsB b).toArray)).run Tryz.prog W = .ok false W := fun W => by rw [equalIn_keys W a b HA.out HB.out]; simp [hab]
  clear ha hb hab
  go_enter Tryz.func73, Tryz.ntmps73
  go_wp2_with (first
    | (rw [HZ.out]; refine wpList_load_row rfl 23 (.tmp 2) rfl w.heap.size rfl 23 (cellsB a).toArray (0, 0) _ (blk_a0 w _ _ _ _) under_key rfl (cellsB_size _ HA.out) ?_)
    | (refine wpList_load_row rfl 23 (.tmp 3) rfl (w.heap.size + 1) rfl 23 (cellsB b).toArray (0, 0) _ (blk_a1 w _ _ _ _) under_key rfl (cellsB_size _ HB.out) ?_))
  clear hz
  go_loopw [10] (fun vi wr => ∃ i : Nat, i ≤ 16 ∧ vi = .int .i64 (i : Int) ∧ Hid (Blk wr w.heap.size 23 (cellsB (xoP a b i)).toArray) ∧ Hid (Blk wr (w.heap.size + 1) 23 (cellsB b).toArray) ∧ Hid (Blk wr (w.heap.size + 1 + 1) 23 (cellsB zeroK).toArray) ∧ Below w.heap.size w wr) (fun vi _ => 16 - (intOf vi).toNat)
  case atStart => exact ⟨0, by omega, rfl, by rw [xoP_zero b HA.out]; exact blk_a0 _ _ _ _ _, blk_a1 _ _ _ _ _, blk_a2 _ _ _ _ _, alloc3_bel _ _ _ _⟩
  case round =>
    obtain ⟨i, hi, rfl, HB1, HB2, HB3, hbel⟩ := hrel
    by_cases hlt : i < 16
    · have hii : (i : Int) < 16 := by omega
      have c0 := HB1.out.cell i
      rw [bytes_get _ i (by rw [xoP_length]; exact hlt), xoP_at a b hlt] at c0
      have c1 := HB2.out.cell i
      rw [bytes_get _ i (by rw [HB.out]; exact hlt)] at c1
      have f0 := HB1.out.frozen i
      have HSET := Lib.hid (xoP_set (a := a) (b := b) hlt)
      obtain ⟨x, hx⟩ : ∃ x, a.getD i 0 = x := ⟨_, rfl⟩
      obtain ⟨y, hy⟩ : ∃ y, b.getD i 0 = y := ⟨_, rfl⟩
      rw [hx, hy] at HSET
      rw [hx] at c0
      rw [hy] at c1
      have HX : Hid (bits .xor .u8 (x.toNat : Int) (y.toNat : Int) = ((x ^^^ y).toNat : Int)) := xor_u8 _ _
      clear hx hy hlt
      go_wp2_with fail
      go_region
      all_goals
        rw [HX.out]
        go_wp2_with fail
        go_roundw
      all_goals first
        | exact ⟨i + 1, by omega, by go_num, by
            have h := HB1.out.drew.set_ i (.int .u8 ((x ^^^ y).toNat : Int))
            rw [bytes_set, HSET.out] at h
            exact h, HB2.out.drew.far (p := ⟨w.heap.size, i, none⟩) (by simp) _, HB3.out.drew.far (p := ⟨w.heap.size, i, none⟩) (by simp; omega) _, hbel.drew.setCell (p := ⟨w.heap.size, i, none⟩) (by simp) _⟩
        | (simp [intOf]; omega)
    · obtain rfl : i = 16 := by omega
      have B1 : Blk wr w.heap.size 23 (cellsB (xorS a b)).toArray := by rw [← xoP_fin]; exact HB1.out
      have HL : Hid ((xorS a b).length = 16) := xorS_length a b
      obtain ⟨r, hr⟩ : ∃ r, xorS a b = r := ⟨_, rfl⟩
      rw [hr] at B1 HL
      have HRX := Lib.hid hr
      have hl : (cellsB r).length = 16 := by rw [cellsB_length, HL.out]
      have hall := all16 r
      have hr3 : (rowAt wr (w.heap.size + 1 + 1)).size = 16 := by rw [HB3.out.row]; rfl
      have hf3 := HB3.out.free
      have HR1 := Lib.hid B1
      clear hr B1
      go_wp2_with (refine wpList_load_row rfl 23 (.tmp 2) rfl w.heap.size rfl 23 (cellsB r).toArray (0, 0) _ HR1.out under_key rfl (cellsB_size _ HL.out) ?_)
      exact bodyPost_ret (results_cell_row rfl _ _ (w.heap.size + 1 + 1) _ _ (0, 0) _ rfl (HB3.out.setRow (cellsB r).toArray) under_key rfl (cellsB_size _ HL.out)) rfl ⟨by rw [HRX.out], below_setRow hbel (by omega) _⟩

set_option maxHeartbeats 2000000 in
set_option maxRecDepth 100000 in
theorem hashStep_any (s p : List UInt8) (w : World) (hs : s.length = 16) (hp : p.length = 16) : Calls Tryz.prog 72 #[.agg (cellsB s).toArray, .agg (cellsB p).toArray] w fun e w' => e = .returned (.agg (cellsB (xorS (encS p s) s)).toArray) ∧ Below w.heap.size w w' := by
  have HS := Lib.hid hs
  have HP := Lib.hid hp
  have HZ := Lib.hid zero16
  have b0 := alloc3_bel w (.cells (cellsB s).toArray 23) (.cells (cellsB p).toArray 23) (.cells (cellsB zeroK).toArray 23)
  have B0 := Lib.hid (blk_a0 w (cellsB s).toArray 23 (.cells (cellsB p).toArray 23) (.cells (cellsB zeroK).toArray 23))
  have B1 := Lib.hid (blk_a1 w (.cells (cellsB s).toArray 23) (cellsB p).toArray 23 (.cells (cellsB zeroK).toArray 23))
  have B2 := Lib.hid (blk_a2 w (.cells (cellsB s).toArray 23) (.cells (cellsB p).toArray 23) (cellsB zeroK).toArray 23)
  have HEN : Hid (∀ W, Calls Tryz.prog 61 #[.agg (cellsB p).toArray, .agg (cellsB s).toArray] W fun e w' => e = .returned (.agg (cellsB (encS p s)).toArray) ∧ Below W.heap.size W w') := fun W => Encrypt_any p s W hp hs
  have HXO : Hid (∀ W, Calls Tryz.prog 73 #[.agg (cellsB (encS p s)).toArray, .agg (cellsB s).toArray] W fun e w' => e = .returned (.agg (cellsB (xorS (encS p s) s)).toArray) ∧ Below W.heap.size W w') := fun W => xor_any _ _ W rfl hs
  have HRL : Hid ((xorS (encS p s) s).length = 16) := xorS_length _ _
  generalize xorS (encS p s) s = r at HXO HRL
  generalize encS p s = t at HEN HXO
  clear hs hp
  go_enter Tryz.func72, Tryz.ntmps72
  go_wp2_with fail
  rw [HZ.out]
  obtain ⟨W, hW⟩ : ∃ W : World, W = ((w.alloc (.cells (cellsB s).toArray 23)).alloc (.cells (cellsB p).toArray 23)).alloc (.cells (cellsB zeroK).toArray 23) := ⟨_, rfl⟩
  rw [← hW] at b0 B0 B1 B2 ⊢
  clear hW
  refine wp_region_noPanic ?_
  refine wp_region_held_drew (S := fun w' => w'.rangeAt w.heap.size 0 (cellsB s) ∧ w'.rangeAt (w.heap.size + 1) 0 (cellsB p)) (by kernel_rfl) ⟨B0.out.drew.range, B1.out.drew.range⟩ (fun hS => ?_)
  refine hd_load 0 (w.heap.size + 1) 0 (cellsB p) _ _ rfl rfl rfl (by kernel_rfl) (by kernel_rfl) (by kernel_rfl) (fun _ _ _ h => h) rfl (fun w hw => hw.2) under_key rfl (key_info HP.out) hS ?_
  refine hd_load 1 w.heap.size 0 (cellsB s) _ _ rfl rfl rfl (by kernel_rfl) (by kernel_rfl) (by kernel_rfl) (fun _ _ _ h => h) rfl (fun w hw => hw.1) under_key rfl (key_info HS.out) hS ?_
  refine hd_load 3 w.heap.size 0 (cellsB s) _ _ rfl rfl rfl (by kernel_rfl) (by kernel_rfl) (by kernel_rfl) (fun _ _ _ h => h) rfl (fun w hw => hw.1) under_key rfl (key_info HS.out) hS ?_
  refine hd_calls 2 61 #[.agg (cellsB p).toArray, .agg (cellsB s).toArray] rfl rfl (by kernel_rfl) (by go_simp) ((HEN.out _).mono ?_)
  rintro e w5 ⟨rfl, hb5⟩
  have hS5 := And.intro (range_below hS.1 hb5) (range_below hS.2 hb5)
  refine ⟨_, rfl, hS5, ?_⟩
  refine hd_calls 4 73 #[.agg (cellsB t).toArray, .agg (cellsB s).toArray] rfl rfl (by kernel_rfl) (by go_simp) ((HXO.out _).mono ?_)
  rintro e w6 ⟨rfl, hb6⟩
  have hS6 := And.intro (range_below hS5.1 hb6) (range_below hS5.2 hb6)
  refine ⟨_, rfl, hS6, ?_⟩
  simp only [List.getElem_toArray, List.getElem_cons_succ, List.getElem_cons_zero, Act.put, List.setIfInBounds_toArray, List.set_cons_zero, List.set_cons_succ]
  have r6 := (B2.out.drew.below' hb5).below' hb6
  have b6 : Below w.heap.size w w6 := bel_on (bel_on (b0.drew) hb5) hb6
  refine hd_store 5 (w.heap.size + 1 + 1) (cellsB r).toArray _ _ _ rfl rfl rfl (by kernel_rfl) rfl rfl r6 (cellsB_size _ HRL.out) (by rw [List.size_toArray, List.size_toArray, cellsB_length, cellsB_length, HRL.out]; rfl) (all_oneCell_toArray (cells_one r)) ⟨range_setRow hS6.1 (by omega) _, range_setRow hS6.2 (by omega) _⟩ ?_
  refine wpAnyH_done (by kernel_rfl) (NoPanic.normal ?_) _
  simp only [List.getElem_toArray, List.getElem_cons_succ, List.getElem_cons_zero, Act.put, List.setIfInBounds_toArray, List.set_cons_zero, List.set_cons_succ]
  go_wp2_with fail
  exact bodyPost_ret (results_cell_row rfl _ _ (w.heap.size + 1 + 1) _ _ (0, 0) _ rfl (r6.setRow (cellsB r).toArray) under_key rfl (cellsB_size _ HRL.out)) rfl ⟨rfl, below_setRow b6 (by omega) _⟩
end Go.Proofs.YtchnaimpmegbkaaGreatDoor

/- The reference's portions. -/
namespace Go.Proofs.YtchnaimpmegbkaaGreatDoor
open Go.RowKit
set_option linter.unusedVariables false
attribute [local go_sem] run_storeCells_key

/-- Where a cut 's[n:]' of bytes leads. -/
def dropP (A : Option Addr) (n c : Nat) : Option Addr := if c = n then A else A.map fun x => x.add n
theorem slice_bytes_from (W : World) (A : Option Addr) (m c n : Nat) (h : n ≤ m) :
    (Instr.slice 31 (.slice A m c) (some (.int .i64 (n : Int))) none none).run Tryz.prog W = .ok (.slice (dropP A n c) (m - n) (c - n)) W := by
  have e : Tryz.prog.elem 31 = 5 := by kernel_rfl
  rw [run_slice_l (P := Tryz.prog) (w := W) 31 A m c (by rw [e]; exact Tryz.underlying31) .i64 n (by omega) (by omega), e, Tryz.sizeOf5 W]
  simp [Result.andThen, sliced, dropP]
theorem BR.drop {w : World} {A : Option Addr} {c : Nat} {l : List UInt8} (h : BR w A c l) (n : Nat) (hn : n ≤ l.length) : BR w (dropP A n c) (c - n) (l.drop n) := by
  have h1 := Rd.le h
  have h2 := Rd.cap h
  have h3 := Rd.len h
  refine ⟨⟨by rw [cellsB_length, Nat.mul_one], by rw [List.length_drop]; omega, by omega, by rw [List.length_drop]; omega⟩, fun hne => ?_⟩
  rw [List.length_drop] at hne
  obtain ⟨b, off, e, hb, hc⟩ := h.2 (by omega)
  refine ⟨b, off + n, by rw [dropP, if_neg (by omega), e]; simp [Addr.add], hb, fun j v hv => ?_⟩
  rw [Nat.add_assoc]
  refine hc (n + j) v ?_
  rw [← hv]
  simp [cellsB, List.getElem?_drop]

end Go.Proofs.YtchnaimpmegbkaaGreatDoor

/- Where a list of leaves is parted, in plain words. -/
namespace Go.Proofs.YtchnaimpmegbkaaGreatDoor
set_option linter.unusedVariables false

/-- The greatest power of 2 below n, for n from 2 on. -/
def splitS (n : Nat) : Nat := 2 ^ Nat.log2 (n - 1)
theorem splitS_pos (n : Nat) : 1 ≤ splitS n := Nat.two_pow_pos _
theorem splitS_lt {n : Nat} (h : 2 ≤ n) : splitS n < n := by
  have := Nat.log2_self_le (n := n - 1) (by omega)
  unfold splitS
  omega
theorem splitS_ge {n : Nat} (h : 2 ≤ n) : n ≤ 2 * splitS n := by
  have := Nat.lt_log2_self (n := n - 1)
  unfold splitS
  rw [Nat.pow_succ] at this
  omega
theorem splitS_of {n e : Nat} (h1 : 2 ^ e < n) (h2 : n ≤ 2 * 2 ^ e) : splitS n = 2 ^ e := by
  have a1 := splitS_lt (n := n) (by have := Nat.two_pow_pos e; omega)
  have a2 := splitS_ge (n := n) (by have := Nat.two_pow_pos e; omega)
  unfold splitS at *
  generalize Nat.log2 (n - 1) = f at *
  rcases Nat.lt_trichotomy e f with h | h | h
  · have := Nat.pow_le_pow_right (show 1 ≤ 2 by omega) (show e + 1 ≤ f from h)
    rw [Nat.pow_succ] at this
    omega
  · rw [h]
  · have := Nat.pow_le_pow_right (show 1 ≤ 2 by omega) (show f + 1 ≤ e from h)
    rw [Nat.pow_succ] at this
    omega
end Go.Proofs.YtchnaimpmegbkaaGreatDoor

/- What follows a text before it is digested, in plain words. -/
namespace Go.Proofs.YtchnaimpmegbkaaGreatDoor
set_option linter.unusedVariables false

/-- What follows n bytes before they are digested: the zeros between. -/
def padZ (n : Nat) : Nat := (23 - n % 16) % 16
def padB (b : List UInt8) : List UInt8 := b ++ (128 :: (List.replicate (padZ b.length) 0 ++ by8 (UInt64.ofNat b.length)))
theorem padB_length (b : List UInt8) : (padB b).length = b.length + 9 + padZ b.length := by simp [padB, by8_length]; omega
end Go.Proofs.YtchnaimpmegbkaaGreatDoor

/- Digests and trees in plain words. -/
namespace Go.Proofs.YtchnaimpmegbkaaGreatDoor
set_option linter.unusedVariables false

def salt : List UInt8 := List.replicate 16 90
def dgStep (all s : List UInt8) (i : Nat) : List UInt8 := xorS (encS (padK (all.drop (16 * i))) s) s
def dgN (all : List UInt8) (i : Nat) : List UInt8 := (List.range i).foldl (dgStep all) salt
/-- The digest of some bytes. -/
def digS (b : List UInt8) : List UInt8 := dgN (padB b) ((padB b).length / 16)
theorem dgN_succ (all : List UInt8) (i : Nat) : dgN all (i + 1) = dgStep all (dgN all i) i := by simp [dgN, List.range_succ]
theorem dgStep_length (all s : List UInt8) (i : Nat) : (dgStep all s i).length = 16 := xorS_length _ _
theorem dgN_length (all : List UInt8) (i : Nat) : (dgN all i).length = 16 := by
  cases i with
  | zero => rfl
  | succ i => rw [dgN_succ]; exact dgStep_length _ _ _
theorem digS_length (b : List UInt8) : (digS b).length = 16 := dgN_length _ _
def leafT (k : List UInt8) : List UInt8 := 0 :: k
def nodeT (a b : List UInt8) : List UInt8 := 1 :: (a ++ b)
def rootS (l : List (List UInt8)) : List UInt8 :=
  if h0 : l.length = 0 then digS []
  else if h1 : l.length = 1 then digS (leafT (l.headD []))
  else
    have := splitS_lt (n := l.length) (by omega)
    have := splitS_pos l.length
    digS (nodeT (rootS (l.take (splitS l.length))) (rootS (l.drop (splitS l.length))))
termination_by l.length
decreasing_by all_goals (simp only [List.length_take, List.length_drop]; omega)

def pathS (l : List (List UInt8)) (i : Nat) : List (List UInt8) :=
  if h1 : l.length ≤ 1 then []
  else
    have := splitS_lt (n := l.length) (by omega)
    have := splitS_pos l.length
    if i < splitS l.length then pathS (l.take (splitS l.length)) i ++ [rootS (l.drop (splitS l.length))]
    else pathS (l.drop (splitS l.length)) (i - splitS l.length) ++ [rootS (l.take (splitS l.length))]
termination_by l.length
decreasing_by all_goals (simp only [List.length_take, List.length_drop]; omega)

theorem rootS_length (l : List (List UInt8)) : (rootS l).length = 16 := by
  rw [rootS]
  split
  · exact digS_length _
  · split <;> exact digS_length _
theorem rootS_nil : rootS [] = digS [] := by rw [rootS]; rfl
theorem rootS_one (k : List UInt8) : rootS [k] = digS (leafT k) := by rw [rootS]; rfl
theorem rootS_node {l : List (List UInt8)} (h : 2 ≤ l.length) : rootS l = digS (nodeT (rootS (l.take (splitS l.length))) (rootS (l.drop (splitS l.length)))) := by
  rw [rootS, dif_neg (by omega), dif_neg (by omega)]
theorem pathS_one {l : List (List UInt8)} (h : l.length ≤ 1) (i : Nat) : pathS l i = [] := by rw [pathS, dif_pos h]
theorem pathS_low {l : List (List UInt8)} {i : Nat} (h : 2 ≤ l.length) (hi : i < splitS l.length) : pathS l i = pathS (l.take (splitS l.length)) i ++ [rootS (l.drop (splitS l.length))] := by
  rw [pathS, dif_neg (by omega)]
  exact if_pos hi
theorem pathS_high {l : List (List UInt8)} {i : Nat} (h : 2 ≤ l.length) (hi : ¬ i < splitS l.length) : pathS l i = pathS (l.drop (splitS l.length)) (i - splitS l.length) ++ [rootS (l.take (splitS l.length))] := by
  rw [pathS, dif_neg (by omega)]
  exact if_neg hi
end Go.Proofs.YtchnaimpmegbkaaGreatDoor

/- The program's fold over portions. -/
namespace Go.Proofs.YtchnaimpmegbkaaGreatDoor
open Go.RowKit
set_option linter.unusedVariables false
attribute [local go_sem] run_storeCells_key

/-- The state after i portions, from s on. -/
def dgFold (all s : List UInt8) (i : Nat) : List UInt8 := (List.range i).foldl (dgStep all) s
theorem dgFold_succ (all s : List UInt8) (i : Nat) : dgFold all s (i + 1) = dgStep all (dgFold all s i) i := by simp [dgFold, List.range_succ]
theorem dgFold_length {all s : List UInt8} (h : s.length = 16) (i : Nat) : (dgFold all s i).length = 16 := by
  cases i with
  | zero => exact h
  | succ i => rw [dgFold_succ]; exact dgStep_length _ _ _
theorem dgFold_dgN (all : List UInt8) (i : Nat) : dgFold all salt i = dgN all i := rfl
theorem padK_take {d : List UInt8} (h : 16 ≤ d.length) : padK d = d.take 16 := by
  refine List.ext_getElem (by simp [padK]; omega) fun i h1 h2 => ?_
  have : i < 16 := by simpa [padK] using h1
  simp [padK, List.getD, List.getElem?_eq_getElem (show i < d.length by omega)]
def lenV : Value → Nat
  | .slice _ n _ => n
  | _ => 0
theorem splice_all (p : List UInt8) (hp : p.length = 16) : splice (cellsB zeroK) 0 (cellsB p) = cellsB p := by
  have h1 : (cellsB p).length = 16 := by rw [cellsB_length, hp]
  have h2 : (cellsB zeroK).drop 16 = [] := rfl
  simp [splice, h1, h2]
theorem copy_src {w : World} {A : Option Addr} {c : Nat} {d : List UInt8} (h : BR w A c d) (n : Nat) : 0 < (cellsB (d.take n)).length → ∃ ad, A = some ad ∧ ∀ j v, (cellsB (d.take n))[j]? = some v → w.cell? (ad.add j) = some v := by
  intro hpos
  have hne : d.length ≠ 0 := by
    intro h0
    rw [List.eq_nil_of_length_eq_zero h0] at hpos
    simp [cellsB] at hpos
  obtain ⟨b, off, e, _, hc⟩ := h.2 hne
  refine ⟨_, e, fun j v hv => ?_⟩
  rw [Addr.add_lit]
  refine hc j v ?_
  have hj : j < (cellsB (d.take n)).length := by
    rcases Nat.lt_or_ge j (cellsB (d.take n)).length with h' | h'
    · exact h'
    · rw [List.getElem?_eq_none h'] at hv; cases hv
  rw [← hv]
  simp only [cellsB, List.getElem?_map, List.getElem?_take]
  rw [cellsB_length, List.length_take] at hj
  rw [if_pos (by omega)]

set_option maxHeartbeats 2000000 in
set_option maxRecDepth 100000 in
theorem fold_any (all s : List UInt8) (A : Option Addr) (c : Nat) (w : World) {L : Nat} (hL : all.length = L) (h16 : L % 16 = 0) (h : BR w A c all) (hs : s.length = 16) :
    Calls Tryz.prog 71 #[.agg (cellsB s).toArray, .slice A L c, .func (.func 72) #[] #[]] w fun e w' => e = .returned (.agg (cellsB (dgFold all s (L / 16))).toArray) ∧ Below w.heap.size w w' := by
  have hl0 : (L : Int) ≤ 140737488351232 := by have := h.len; omega
  have HL := Lib.hid hL
  have H := Lib.hid h
  have HS := Lib.hid hs
  have HZ := Lib.hid zero16
  have b0 := alloc2_bel w (.cells (cellsB s).toArray 23) (.cells (cellsB zeroK).toArray 23)
  have B0 := Lib.hid (blk_b0 w (cellsB s).toArray 23 (.cells (cellsB zeroK).toArray 23))
  have B1 := Lib.hid (blk_b1 w (.cells (cellsB s).toArray 23) (cellsB zeroK).toArray 23)
  clear hL h hs
  go_enter Tryz.func71, Tryz.ntmps71
  go_wp2_with fail
  rw [HZ.out]
  go_loopw [1] (fun vb wr => ∃ (i m : Nat) (A' : Option Addr) (c' : Nat), 16 * i + m = L ∧ vb = .slice A' m c' ∧ Hid (BR w A' c' (all.drop (16 * i))) ∧ Hid (Blk wr w.heap.size 23 (cellsB (dgFold all s i)).toArray) ∧ Hid (Blk wr (w.heap.size + 1) 23 (cellsB zeroK).toArray) ∧ Below w.heap.size w wr) (fun vb _ => lenV vb)
  case atStart => exact ⟨0, L, A, c, by omega, rfl, H.out, B0.out, B1.out, b0⟩
  case round =>
    obtain ⟨i, m, A', c', him, rfl, HR, HB0, HB1, hbel⟩ := hrel
    by_cases hm : 0 < m
    · have hmi : (0 : Int) < m := by omega
      have hm16 : 16 ≤ m := by omega
      have hml : (m : Int) ≤ 140737488351232 := by omega
      have hdl : (all.drop (16 * i)).length = m := by rw [List.length_drop, HL.out]; omega
      have hp16 : ((all.drop (16 * i)).take 16).length = 16 := by rw [List.length_take]; omega
      have HSUC : Hid (dgFold all s (i + 1) = xorS (encS ((all.drop (16 * i)).take 16) (dgFold all s i)) (dgFold all s i)) := by unfold Hid; rw [dgFold_succ, dgStep, padK_take (by omega)]
      have HDR := Lib.hid (HR.out.drop 16 (by omega))
      rw [List.drop_drop, show 16 * i + 16 = 16 * (i + 1) from by omega] at HDR
      have HSRC := Lib.hid (copy_src ((HR.out.below hbel).below (alloc_bel wr (.cells (cellsB zeroK).toArray 23))) 16)
      have HFL : Hid ((dgFold all s i).length = 16) := dgFold_length HS.out i
      have HDL := Lib.hid hdl
      generalize (all.drop (16 * i)).take 16 = p at hp16 HSUC HSRC
      generalize dgFold all s i = f at HSUC HB0 HFL
      have HPL := Lib.hid hp16
      have HST : Hid (∀ W, Calls Tryz.prog 72 #[.agg (cellsB f).toArray, .agg (cellsB p).toArray] W fun e w' => e = .returned (.agg (cellsB (xorS (encS p f) f)).toArray) ∧ Below W.heap.size W w') := fun W => hashStep_any f p W HFL.out hp16
      have HRL : Hid ((xorS (encS p f) f).length = 16) := xorS_length _ _
      generalize xorS (encS p f) f = r at HSUC HST HRL
      have hrl : (cellsB r).length = 16 := by rw [cellsB_length, HRL.out]
      have hra := all16 r
      have hsl : ∀ W, (Instr.slice 31 (.slice A' m c') (some (.int .i64 16)) none none).run Tryz.prog W = .ok (.slice (dropP A' 16 c') (m - 16) (c' - 16)) W := fun W => slice_bytes_from W A' m c' 16 hm16
      clear hp16 hdl
      go_wp2_with (first
        | (rw [HZ.out]; refine wpList_copy_splice rfl (.tmp 12) (.tmp 13) 31 31 rfl 5 Tryz.underlying31 (by kernel_rfl) (some ⟨wr.heap.size, 0, none⟩) A' 16 16 m c' rfl rfl wr.heap.size 0 (cellsB zeroK) 23 (Blk.new wr _ _) (cellsB p) (by rw [cellsB_length, HPL.out]; simp [Nat.min_def]; omega) (fun h => ⟨rfl, HSRC.out h⟩) (by rw [cellsB_length, HPL.out]; exact Nat.le_refl _) (cells_one p) wr.heap.size wr (alloc_bel _ _) (Nat.le_refl _) ?_; intro w4 hg4 hb4; rw [splice_all p HPL.out] at hg4; have G4 := hg4; rw [show (goInt (cellsB p).length) = .int .i64 16 from by rw [cellsB_length, HPL.out]; rfl])
        | (refine wpList_load_row rfl 23 (.tmp 3) rfl w.heap.size rfl 23 (cellsB f).toArray (0, 0) _ (HB0.out.below' hb4) under_key rfl (cellsB_size _ HFL.out) ?_)
        | (refine wpList_load_row rfl 23 (.tmp 7) rfl wr.heap.size rfl 23 (cellsB p).toArray (0, 0) _ G4.out under_key rfl (cellsB_size _ HPL.out) ?_)
        | (go_at_call 72; refine (HST.out _).mono ?_; rintro e w5 ⟨rfl, hb5⟩; have Q0 := (HB0.out.below' hb4).below' hb5; have Q1 := Lib.hid ((HB1.out.below' hb4).below' hb5); have hr5 : (rowAt w5 w.heap.size).size = 16 := (by rw [Q0.row]; rw [List.size_toArray, cellsB_length, HFL.out]); have hf5 := Q0.free; have HQ0 := Lib.hid Q0; have b5 := bel_on (w0 := wr) hb4 hb5; clear Q0))
      have hbF := below_setRow (bel_on hbel b5) (g := w.heap.size) (Nat.le_refl _) (cellsB r).toArray
      exact ⟨⟨i + 1, m - 16, dropP A' 16 c', c' - 16, by omega, rfl, HDR.out, by rw [HSUC.out]; exact HQ0.out.setRow _, (setRow_other _ _ _ _ (by omega)).trans Q1.out, hbF⟩, by simp only [lenV]; omega⟩
    · obtain rfl : m = 0 := by omega
      have HI : Hid (L / 16 = i) := by unfold Hid; omega
      have HFL : Hid ((dgFold all s i).length = 16) := dgFold_length HS.out i
      obtain ⟨f, hf⟩ : ∃ f, dgFold all s i = f := ⟨_, rfl⟩
      rw [hf] at HB0 HFL
      have HF := Lib.hid hf
      have hfl : (cellsB f).length = 16 := by rw [cellsB_length, HFL.out]
      have hall := all16 f
      have hr3 : (rowAt wr (w.heap.size + 1)).size = 16 := by rw [HB1.out.row]; rfl
      have hf3 := HB1.out.free
      clear hf
      go_wp2_with (refine wpList_load_row rfl 23 (.tmp 3) rfl w.heap.size rfl 23 (cellsB f).toArray (0, 0) _ HB0.out under_key rfl (cellsB_size _ HFL.out) ?_)
      exact bodyPost_ret (results_cell_row rfl _ _ (w.heap.size + 1) _ _ (0, 0) _ rfl (HB1.out.setRow (cellsB f).toArray) under_key rfl (cellsB_size _ HFL.out)) rfl ⟨by rw [HI.out, HF.out], below_setRow hbel (by omega) _⟩
end Go.Proofs.YtchnaimpmegbkaaGreatDoor

/- The padded text as the program makes it, in plain words. -/
namespace Go.Proofs.YtchnaimpmegbkaaGreatDoor
set_option linter.unusedVariables false

theorem by8_small {n : Nat} (h : n < 65536) : by8 (UInt64.ofNat n) = [0, 0, 0, 0, 0, 0, UInt8.ofNat (n / 256), UInt8.ofNat n] := by
  have hn : (UInt64.ofNat n).toNat = n := by rw [UInt64.toNat_ofNat', Nat.mod_eq_of_lt (by omega)]
  have g : ∀ k : Nat, k < 64 → ((UInt64.ofNat n) >>> (UInt64.ofNat k)).toUInt8 = UInt8.ofNat (n / 2 ^ k) := fun k hk => by
    apply UInt8.toNat_inj.1
    rw [UInt64.toNat_toUInt8, toNat_shr _ _ hk, hn]
    simp
  have z : ∀ k : Nat, 16 ≤ k → UInt8.ofNat (n / 2 ^ k) = 0 := fun k hk => by
    have : n / 2 ^ k = 0 := Nat.div_eq_of_lt (Nat.lt_of_lt_of_le h (show 2 ^ 16 ≤ 2 ^ k from Nat.pow_le_pow_right (by decide) hk))
    rw [this]; rfl
  have g0 : (UInt64.ofNat n).toUInt8 = UInt8.ofNat n := by
    apply UInt8.toNat_inj.1
    rw [UInt64.toNat_toUInt8, hn]
    simp
  unfold by8
  rw [show (56 : UInt64) = UInt64.ofNat 56 from rfl, show (48 : UInt64) = UInt64.ofNat 48 from rfl, show (40 : UInt64) = UInt64.ofNat 40 from rfl, show (32 : UInt64) = UInt64.ofNat 32 from rfl, show (24 : UInt64) = UInt64.ofNat 24 from rfl, show (16 : UInt64) = UInt64.ofNat 16 from rfl, show (8 : UInt64) = UInt64.ofNat 8 from rfl]
  rw [g 56 (by omega), g 48 (by omega), g 40 (by omega), g 32 (by omega), g 24 (by omega), g 16 (by omega), g 8 (by omega), g0, z 56 (by omega), z 48 (by omega), z 40 (by omega), z 32 (by omega), z 24 (by omega), z 16 (by omega)]

/-- The text as it is filled in. -/
theorem padB_sets (b : List UInt8) {n L : Nat} (hL : b.length = L) (h : L < 65536) (hn : n = L + 9 + padZ L) :
    (((b ++ List.replicate (n - L) 0).set L 128).set (n - 2) (UInt8.ofNat (L / 256))).set (n - 1) (UInt8.ofNat L) = padB b := by
  have hz : padZ L ≤ 15 := by unfold padZ; omega
  refine List.ext_getElem? fun i => ?_
  rw [padB, hL, by8_small h]
  simp only [List.getElem?_set, List.getElem?_append, List.getElem?_replicate, List.getElem?_cons, List.length_set, List.length_append, List.length_replicate, hL]
  by_cases h1 : n - 1 = i
  · subst h1
    rw [if_pos rfl, if_pos (by omega), if_neg (by omega), if_neg (by omega), if_neg (by omega), show n - 1 - L - 1 - padZ L = 7 from by omega]
    rfl
  · rw [if_neg h1]
    by_cases h2 : n - 2 = i
    · subst h2
      rw [if_pos rfl, if_pos (by omega), if_neg (by omega), if_neg (by omega), if_neg (by omega), show n - 2 - L - 1 - padZ L = 6 from by omega]
      rfl
    · rw [if_neg h2]
      by_cases h3 : L = i
      · subst h3
        rw [if_pos rfl, if_pos (by omega), if_neg (by omega), if_pos (by omega)]
      · rw [if_neg h3]
        by_cases h4 : i < L
        · rw [if_pos h4, if_pos h4]
        · rw [if_neg h4, if_neg h4, if_neg (show ¬ i - L = 0 by omega)]
          by_cases h5 : i < n
          · rw [if_pos (show i - L < n - L by omega)]
            by_cases h6 : i - L - 1 < padZ L
            · rw [if_pos h6, if_pos h6]
            · rw [if_neg h6]
              obtain ⟨j, hj⟩ : ∃ j, i - L - 1 - padZ L = j := ⟨_, rfl⟩
              rw [hj]
              have : j < 6 := by omega
              match j, this with
              | 0, _ => rfl
              | 1, _ => rfl
              | 2, _ => rfl
              | 3, _ => rfl
              | 4, _ => rfl
              | 5, _ => rfl
          · rw [if_neg (show ¬ i - L < n - L by omega), if_neg (show ¬ i - L - 1 < padZ L by omega)]
            obtain ⟨j, hj⟩ : ∃ j, i - L - 1 - padZ L = j + 8 := ⟨i - L - 1 - padZ L - 8, by omega⟩
            rw [hj]
            rfl
end Go.Proofs.YtchnaimpmegbkaaGreatDoor

/- The first state of a digest, in plain words. -/
namespace Go.Proofs.YtchnaimpmegbkaaGreatDoor
set_option linter.unusedVariables false

def saltJ (i : Nat) : List UInt8 := List.replicate i 90 ++ List.replicate (16 - i) 0
theorem saltJ_length {i : Nat} (h : i ≤ 16) : (saltJ i).length = 16 := by simp [saltJ]; omega
theorem saltJ_set {i : Nat} (h : i < 16) : (saltJ i).set i 90 = saltJ (i + 1) := by
  refine List.ext_getElem? fun j => ?_
  simp only [saltJ, List.getElem?_set, List.getElem?_append, List.getElem?_replicate, List.length_replicate, List.length_append]
  by_cases h1 : i = j
  · subst h1
    rw [if_pos rfl, if_pos (by omega), if_pos (by omega), if_pos (by omega)]
  · rw [if_neg h1]
    by_cases h2 : j < i
    · rw [if_pos h2, if_pos h2, if_pos (by omega), if_pos (by omega)]
    · rw [if_neg h2, if_neg (show ¬ j < i + 1 by omega)]
      by_cases h3 : j < 16
      · rw [if_pos (by omega), if_pos (by omega)]
      · rw [if_neg (by omega), if_neg (by omega)]
end Go.Proofs.YtchnaimpmegbkaaGreatDoor

/- The program's Hash, for texts that are not too long. -/
namespace Go.Proofs.YtchnaimpmegbkaaGreatDoor
open Go.RowKit
set_option linter.unusedVariables false
attribute [local go_sem] run_storeCells_key

theorem splice_head (b : List UInt8) {n L : Nat} (hL : b.length = L) (h : L ≤ n) : splice (cellsB (List.replicate n 0)) 0 (cellsB b) = cellsB (b ++ List.replicate (n - L) 0) := by
  simp [splice, cellsB, hL]
theorem copy_src_all {w : World} {A : Option Addr} {c : Nat} {d : List UInt8} (h : BR w A c d) : 0 < (cellsB d).length → ∃ ad, A = some ad ∧ ∀ j v, (cellsB d)[j]? = some v → w.cell? (ad.add j) = some v := by
  have := copy_src h d.length
  rwa [List.take_length] at this

set_option maxHeartbeats 2000000 in
set_option maxRecDepth 100000 in
theorem Hash_any (b : List UInt8) (A : Option Addr) (c : Nat) (w : World) {L : Nat} (hL : b.length = L) (h : BR w A c b) (hl : L ≤ 16384) :
    Calls Tryz.prog 39 #[.slice A L c] w fun e w' => e = .returned (.tuple #[.agg (cellsB (digS b)).toArray, .int .i64 0]) ∧ Below w.heap.size w w' := by
  have hl1 : (L : Int) ≤ 16384 := by omega
  have HL := Lib.hid hL
  have H := Lib.hid h
  have HZ := Lib.hid zero16
  obtain ⟨n, hn⟩ : ∃ n, n = L + 9 + padZ L := ⟨_, rfl⟩
  have hn16 : n % 16 = 0 := by rw [hn]; unfold padZ; omega
  have hnb : n ≤ 20000 := by rw [hn]; unfold padZ; omega
  have hnL : L + 9 ≤ n := by omega
  have HSETS := Lib.hid (padB_sets b hL (by omega) hn)
  have HPL : Hid ((padB b).length = n) := by unfold Hid; rw [padB_length, hL, hn]
  have HDG : Hid (digS b = dgFold (padB b) salt (n / 16)) := by unfold Hid digS; rw [HPL.out, dgFold_dgN]
  have hmk := run_make_row' (P := Tryz.prog) 31 5 (.int .u8 0) 1 Tryz.underlying31 (by kernel_rfl) rfl .i64 .i64 n (by omega) (by omega)
  have HMB := Lib.hid (made_bytes n)
  have hnI : (n : Int) = (L : Int) / 16 * 16 + 16 + (if (7 : Int) < (L : Int) % 16 then 16 else 0) := by
    rw [hn]; unfold padZ
    split <;> omega
  have HSRC := Lib.hid (fun W (hW : Below w.heap.size w W) => copy_src_all (h.below hW))
  by_cases hr : (7 : Int) < (L : Int) % 16
  · rw [if_pos hr] at hnI
    have HNI := Lib.hid hnI
    clear hL h hl hn hnI
    go_enter Tryz.func39, Tryz.ntmps39
    go_wp2_with (first
      | (rw [← HNI.out])
      | (rw [HMB.out, HZ.out]; refine wpList_copy_splice rfl (.tmp 25) (.tmp 26) 31 31 rfl 5 Tryz.underlying31 (by kernel_rfl) (some ⟨w.heap.size + 1, 0, none⟩) A n n L c rfl rfl (w.heap.size + 1) 0 (cellsB (List.replicate n 0)) 5 (blk_b1 w _ _ _) (cellsB b) (by rw [cellsB_length, HL.out]; simp [Nat.min_def]; omega) (fun h => ⟨rfl, HSRC.out _ (alloc2_bel w _ _) h⟩) (by rw [cellsB_length, HL.out, cellsB_length, List.length_replicate]; omega) (cells_one b) (w.heap.size + 1) (w.alloc (.cells (cellsB zeroK).toArray 23)) ((Below.refl _ _).alloc (by simp) _) (Nat.le_refl _) ?_; intro w4 hg4 hb4; rw [splice_head b HL.out (by omega)] at hg4; have G4 : Hid (Blk w4 (w.heap.size + 1) 5 (cellsB (b ++ List.replicate (n - L) 0)).toArray) := hg4; clear hg4; have R4 := Lib.hid ((Blk.new w 23 (cellsB zeroK).toArray).below hb4 (by omega)); have b4 := (alloc_bel w (.cells (cellsB zeroK).toArray 23)).trans (hb4.mono (by omega)); have c4 := G4.out.cell L; rw [bytes_get _ L (by rw [List.length_append, List.length_replicate, HL.out]; omega)] at c4; have f4 := G4.out.frozen L; have c5 := G4.out.cell (n - 2); rw [bytes_get _ (n - 2) (by rw [List.length_append, List.length_replicate, HL.out]; omega)] at c5; have f5 := G4.out.frozen (n - 2); have c6 := G4.out.cell (n - 1); rw [bytes_get _ (n - 1) (by rw [List.length_append, List.length_replicate, HL.out]; omega)] at c6; have f6 := G4.out.frozen (n - 1); clear hb4))
    have e1 : ((128 : UInt8).toNat : Int) = 128 := rfl
    have e2 : ((UInt8.ofNat (L / 256)).toNat : Int) = (L : Int) / 256 := by rw [UInt8.toNat_ofNat']; omega
    have e3 : ((UInt8.ofNat L).toNat : Int) = (L : Int) % 256 := by rw [UInt8.toNat_ofNat']; omega
    have G9 := ((G4.out.set_ L (.int .u8 ((128 : UInt8).toNat : Int))).set_ (n - 2) (.int .u8 ((UInt8.ofNat (L / 256)).toNat : Int))).set_ (n - 1) (.int .u8 ((UInt8.ofNat L).toNat : Int))
    rw [bytes_set, bytes_set, bytes_set, HSETS.out, e1, e2, e3] at G9
    have RZ := (((R4.out.far (p := ⟨w.heap.size + 1, L, none⟩) (by simp) (.int .u8 128)).far (p := ⟨w.heap.size + 1, n - 2, none⟩) (by simp) (.int .u8 ((L : Int) / 256))).far (p := ⟨w.heap.size + 1, n - 1, none⟩) (by simp) (.int .u8 ((L : Int) % 256)))
    have b3 := ((b4.setCell (p := ⟨w.heap.size + 1, L, none⟩) (by simp) (.int .u8 128)).setCell (p := ⟨w.heap.size + 1, n - 2, none⟩) (by simp) (.int .u8 ((L : Int) / 256))).setCell (p := ⟨w.heap.size + 1, n - 1, none⟩) (by simp) (.int .u8 ((L : Int) % 256))
    have hgl : w.heap.size + 1 < w4.heap.size := G4.out.lt
    rw [HZ.out]
    obtain ⟨W3, hW3⟩ : ∃ W : World, W = ((w4.setCell ⟨w.heap.size + 1, L, none⟩ (.int .u8 128)).setCell ⟨w.heap.size + 1, n - 2, none⟩ (.int .u8 ((L : Int) / 256))).setCell ⟨w.heap.size + 1, n - 1, none⟩ (.int .u8 ((L : Int) % 256)) := ⟨_, rfl⟩
    have hsz : W3.heap.size = w4.heap.size := by rw [hW3]; simp
    rw [← hW3] at G9 RZ b3 ⊢
    have N9 : Blk (W3.alloc (.cells (cellsB zeroK).toArray 23)) w4.heap.size 23 (cellsB zeroK).toArray := by rw [← hsz]; exact Blk.new _ _ _
    have G9' := G9.alloc (.cells (cellsB zeroK).toArray 23)
    have RZ' := RZ.alloc (.cells (cellsB zeroK).toArray 23)
    have b9 := b3.alloc b3.size (.cells (cellsB zeroK).toArray 23)
    generalize W3.alloc (.cells (cellsB zeroK).toArray 23) = W9 at N9 G9' RZ' b9 ⊢
    clear hW3 hsz G9 RZ b3 c4 c5 c6 f4 f5 f6 e1 e2 e3
    have HN9 := Lib.hid N9
    have HG9 := Lib.hid G9'
    have HRZ := Lib.hid RZ'
    clear N9 G9' RZ'
    go_loopw [47] (fun vi wr => ∃ i : Nat, i ≤ 16 ∧ vi = .int .i64 (i : Int) ∧ Hid (Blk wr w4.heap.size 23 (cellsB (saltJ i)).toArray) ∧ Hid (Blk wr (w.heap.size + 1) 5 (cellsB (padB b)).toArray) ∧ Hid (Blk wr w.heap.size 23 (cellsB zeroK).toArray) ∧ Below w.heap.size w wr) (fun vi _ => 16 - (intOf vi).toNat)
    case atStart => exact ⟨0, by omega, rfl, HN9.out, HG9.out, HRZ.out, b9⟩
    case round =>
      obtain ⟨i, hi, rfl, HB1, HG, HB0, hbel⟩ := hrel
      by_cases hlt : i < 16
      · have hii : (i : Int) < 16 := by omega
        have c0 := HB1.out.cell i
        rw [bytes_get _ i (by rw [saltJ_length hi]; exact hlt)] at c0
        have f0 := HB1.out.frozen i
        have HSET := Lib.hid (saltJ_set hlt)
        clear hlt
        go_wp2_with fail
        refine ⟨⟨i + 1, by omega, by go_num, ?_, HG.out.far (p := ⟨w4.heap.size, i, none⟩) (by simp; omega) _, HB0.out.far (p := ⟨w4.heap.size, i, none⟩) (by simp; omega) _, hbel.setCell (p := ⟨w4.heap.size, i, none⟩) (by simp; omega) _⟩, by simp [intOf]; omega⟩
        have h := HB1.out.set_ i (.int .u8 ((90 : UInt8).toNat : Int))
        rw [bytes_set, HSET.out] at h
        exact h
      · obtain rfl : i = 16 := by omega
        rw [show saltJ 16 = salt from rfl] at HB1
        have HFO : Hid (∀ W, BR W (some ⟨w.heap.size + 1, 0, none⟩) n (padB b) → Calls Tryz.prog 71 #[.agg (cellsB salt).toArray, .slice (some ⟨w.heap.size + 1, 0, none⟩) n n, .func (.func 72) #[] #[]] W fun e w' => e = .returned (.agg (cellsB (dgFold (padB b) salt (n / 16))).toArray) ∧ Below W.heap.size W w') := fun W hW => fold_any (padB b) salt _ n W HPL.out hn16 hW rfl
        have HBR : Hid (BR wr (some ⟨w.heap.size + 1, 0, none⟩) n (padB b)) := (HG.out.ob (Nat.le_refl _) HPL.out rfl (by omega)).br (by rw [HPL.out]; omega)
        have HSL : Hid (salt.length = 16) := rfl
        have HFL : Hid ((dgFold (padB b) salt (n / 16)).length = 16) := dgFold_length rfl _
        generalize dgFold (padB b) salt (n / 16) = f at HFO HFL HDG
        generalize salt = s0 at HB1 HFO HSL
        have hfl : (cellsB f).length = 16 := by rw [cellsB_length, HFL.out]
        have hall := all16 f
        go_wp2_with (first
          | (refine wpList_load_row rfl 23 (.tmp 6) rfl w4.heap.size rfl 23 (cellsB s0).toArray (0, 0) _ HB1.out under_key rfl (cellsB_size _ HSL.out) ?_)
          | (go_at_call 71; refine (HFO.out _ HBR.out).mono ?_; rintro e w5 ⟨rfl, hb5⟩; have Q5 := HB0.out.below' hb5; have hr5 : (rowAt w5 w.heap.size).size = 16 := (by rw [Q5.row]; rfl); have hf5 := Q5.free; have HQ5 := Lib.hid Q5; have bb5 := bel_on hbel hb5; clear Q5))
        refine bodyPost_ret (v := .tuple #[.agg (cellsB f).toArray, .int .i64 0]) ?_ rfl ⟨by rw [HDG.out], below_setRow bb5 (Nat.le_refl _) _⟩
        rw [results_cell_tmp Tryz.results39]
        simp [asAddr, Result.andThen, run_loadVar_row _ w.heap.size _ _ _ (0, 0) _ (HQ5.out.setRow (cellsB f).toArray) under_key rfl (cellsB_size _ HFL.out)]
  · rw [if_neg hr, Int.add_zero] at hnI
    have hr : (L : Int) % 16 ≤ 7 := by omega
    have HNI := Lib.hid hnI
    clear hL h hl hn hnI
    go_enter Tryz.func39, Tryz.ntmps39
    go_wp2_with (first
      | (rw [← HNI.out])
      | (rw [HMB.out, HZ.out]; refine wpList_copy_splice rfl (.tmp 25) (.tmp 26) 31 31 rfl 5 Tryz.underlying31 (by kernel_rfl) (some ⟨w.heap.size + 1, 0, none⟩) A n n L c rfl rfl (w.heap.size + 1) 0 (cellsB (List.replicate n 0)) 5 (blk_b1 w _ _ _) (cellsB b) (by rw [cellsB_length, HL.out]; simp [Nat.min_def]; omega) (fun h => ⟨rfl, HSRC.out _ (alloc2_bel w _ _) h⟩) (by rw [cellsB_length, HL.out, cellsB_length, List.length_replicate]; omega) (cells_one b) (w.heap.size + 1) (w.alloc (.cells (cellsB zeroK).toArray 23)) ((Below.refl _ _).alloc (by simp) _) (Nat.le_refl _) ?_; intro w4 hg4 hb4; rw [splice_head b HL.out (by omega)] at hg4; have G4 : Hid (Blk w4 (w.heap.size + 1) 5 (cellsB (b ++ List.replicate (n - L) 0)).toArray) := hg4; clear hg4; have R4 := Lib.hid ((Blk.new w 23 (cellsB zeroK).toArray).below hb4 (by omega)); have b4 := (alloc_bel w (.cells (cellsB zeroK).toArray 23)).trans (hb4.mono (by omega)); have c4 := G4.out.cell L; rw [bytes_get _ L (by rw [List.length_append, List.length_replicate, HL.out]; omega)] at c4; have f4 := G4.out.frozen L; have c5 := G4.out.cell (n - 2); rw [bytes_get _ (n - 2) (by rw [List.length_append, List.length_replicate, HL.out]; omega)] at c5; have f5 := G4.out.frozen (n - 2); have c6 := G4.out.cell (n - 1); rw [bytes_get _ (n - 1) (by rw [List.length_append, List.length_replicate, HL.out]; omega)] at c6; have f6 := G4.out.frozen (n - 1); clear hb4))
    have e1 : ((128 : UInt8).toNat : Int) = 128 := rfl
    have e2 : ((UInt8.ofNat (L / 256)).toNat : Int) = (L : Int) / 256 := by rw [UInt8.toNat_ofNat']; omega
    have e3 : ((UInt8.ofNat L).toNat : Int) = (L : Int) % 256 := by rw [UInt8.toNat_ofNat']; omega
    have G9 := ((G4.out.set_ L (.int .u8 ((128 : UInt8).toNat : Int))).set_ (n - 2) (.int .u8 ((UInt8.ofNat (L / 256)).toNat : Int))).set_ (n - 1) (.int .u8 ((UInt8.ofNat L).toNat : Int))
    rw [bytes_set, bytes_set, bytes_set, HSETS.out, e1, e2, e3] at G9
    have RZ := (((R4.out.far (p := ⟨w.heap.size + 1, L, none⟩) (by simp) (.int .u8 128)).far (p := ⟨w.heap.size + 1, n - 2, none⟩) (by simp) (.int .u8 ((L : Int) / 256))).far (p := ⟨w.heap.size + 1, n - 1, none⟩) (by simp) (.int .u8 ((L : Int) % 256)))
    have b3 := ((b4.setCell (p := ⟨w.heap.size + 1, L, none⟩) (by simp) (.int .u8 128)).setCell (p := ⟨w.heap.size + 1, n - 2, none⟩) (by simp) (.int .u8 ((L : Int) / 256))).setCell (p := ⟨w.heap.size + 1, n - 1, none⟩) (by simp) (.int .u8 ((L : Int) % 256))
    have hgl : w.heap.size + 1 < w4.heap.size := G4.out.lt
    rw [HZ.out]
    obtain ⟨W3, hW3⟩ : ∃ W : World, W = ((w4.setCell ⟨w.heap.size + 1, L, none⟩ (.int .u8 128)).setCell ⟨w.heap.size + 1, n - 2, none⟩ (.int .u8 ((L : Int) / 256))).setCell ⟨w.heap.size + 1, n - 1, none⟩ (.int .u8 ((L : Int) % 256)) := ⟨_, rfl⟩
    have hsz : W3.heap.size = w4.heap.size := by rw [hW3]; simp
    rw [← hW3] at G9 RZ b3 ⊢
    have N9 : Blk (W3.alloc (.cells (cellsB zeroK).toArray 23)) w4.heap.size 23 (cellsB zeroK).toArray := by rw [← hsz]; exact Blk.new _ _ _
    have G9' := G9.alloc (.cells (cellsB zeroK).toArray 23)
    have RZ' := RZ.alloc (.cells (cellsB zeroK).toArray 23)
    have b9 := b3.alloc b3.size (.cells (cellsB zeroK).toArray 23)
    generalize W3.alloc (.cells (cellsB zeroK).toArray 23) = W9 at N9 G9' RZ' b9 ⊢
    clear hW3 hsz G9 RZ b3 c4 c5 c6 f4 f5 f6 e1 e2 e3
    have HN9 := Lib.hid N9
    have HG9 := Lib.hid G9'
    have HRZ := Lib.hid RZ'
    clear N9 G9' RZ'
    go_loopw [47] (fun vi wr => ∃ i : Nat, i ≤ 16 ∧ vi = .int .i64 (i : Int) ∧ Hid (Blk wr w4.heap.size 23 (cellsB (saltJ i)).toArray) ∧ Hid (Blk wr (w.heap.size + 1) 5 (cellsB (padB b)).toArray) ∧ Hid (Blk wr w.heap.size 23 (cellsB zeroK).toArray) ∧ Below w.heap.size w wr) (fun vi _ => 16 - (intOf vi).toNat)
    case atStart => exact ⟨0, by omega, rfl, HN9.out, HG9.out, HRZ.out, b9⟩
    case round =>
      obtain ⟨i, hi, rfl, HB1, HG, HB0, hbel⟩ := hrel
      by_cases hlt : i < 16
      · have hii : (i : Int) < 16 := by omega
        have c0 := HB1.out.cell i
        rw [bytes_get _ i (by rw [saltJ_length hi]; exact hlt)] at c0
        have f0 := HB1.out.frozen i
        have HSET := Lib.hid (saltJ_set hlt)
        clear hlt
        go_wp2_with fail
        refine ⟨⟨i + 1, by omega, by go_num, ?_, HG.out.far (p := ⟨w4.heap.size, i, none⟩) (by simp; omega) _, HB0.out.far (p := ⟨w4.heap.size, i, none⟩) (by simp; omega) _, hbel.setCell (p := ⟨w4.heap.size, i, none⟩) (by simp; omega) _⟩, by simp [intOf]; omega⟩
        have h := HB1.out.set_ i (.int .u8 ((90 : UInt8).toNat : Int))
        rw [bytes_set, HSET.out] at h
        exact h
      · obtain rfl : i = 16 := by omega
        rw [show saltJ 16 = salt from rfl] at HB1
        have HFO : Hid (∀ W, BR W (some ⟨w.heap.size + 1, 0, none⟩) n (padB b) → Calls Tryz.prog 71 #[.agg (cellsB salt).toArray, .slice (some ⟨w.heap.size + 1, 0, none⟩) n n, .func (.func 72) #[] #[]] W fun e w' => e = .returned (.agg (cellsB (dgFold (padB b) salt (n / 16))).toArray) ∧ Below W.heap.size W w') := fun W hW => fold_any (padB b) salt _ n W HPL.out hn16 hW rfl
        have HBR : Hid (BR wr (some ⟨w.heap.size + 1, 0, none⟩) n (padB b)) := (HG.out.ob (Nat.le_refl _) HPL.out rfl (by omega)).br (by rw [HPL.out]; omega)
        have HSL : Hid (salt.length = 16) := rfl
        have HFL : Hid ((dgFold (padB b) salt (n / 16)).length = 16) := dgFold_length rfl _
        generalize dgFold (padB b) salt (n / 16) = f at HFO HFL HDG
        generalize salt = s0 at HB1 HFO HSL
        have hfl : (cellsB f).length = 16 := by rw [cellsB_length, HFL.out]
        have hall := all16 f
        go_wp2_with (first
          | (refine wpList_load_row rfl 23 (.tmp 6) rfl w4.heap.size rfl 23 (cellsB s0).toArray (0, 0) _ HB1.out under_key rfl (cellsB_size _ HSL.out) ?_)
          | (go_at_call 71; refine (HFO.out _ HBR.out).mono ?_; rintro e w5 ⟨rfl, hb5⟩; have Q5 := HB0.out.below' hb5; have hr5 : (rowAt w5 w.heap.size).size = 16 := (by rw [Q5.row]; rfl); have hf5 := Q5.free; have HQ5 := Lib.hid Q5; have bb5 := bel_on hbel hb5; clear Q5))
        refine bodyPost_ret (v := .tuple #[.agg (cellsB f).toArray, .int .i64 0]) ?_ rfl ⟨by rw [HDG.out], below_setRow bb5 (Nat.le_refl _) _⟩
        rw [results_cell_tmp Tryz.results39]
        simp [asAddr, Result.andThen, run_loadVar_row _ w.heap.size _ _ _ (0, 0) _ (HQ5.out.setRow (cellsB f).toArray) under_key rfl (cellsB_size _ HFL.out)]
end Go.Proofs.YtchnaimpmegbkaaGreatDoor

/- slices.Concat at bytes. -/
namespace Go.Proofs.YtchnaimpmegbkaaGreatDoor
open Go.RowKit
set_option linter.unusedVariables false

theorem wpList_grow (w : World) {ops : Array Oper} {rest : List Oper} {o : Oper} {a : Act} {Q : Exit → Act → World → Prop} (hgd : o.guard = none) (s x : Operand)
    (ho : o.op = .call { callee := .builtin .append, args := #[s, x], argTypes := #[31, 3] }) (k : Nat) (hs : a.eval s = .slice none 0 0) (hx : a.eval x = .int .i64 (k : Int)) (h0 : 0 < k) (hk : k ≤ 1000000)
    (h : ∀ c w', OB w.heap.size w' (some ⟨w.heap.size, 0, none⟩) c [] → k ≤ c → c ≤ 9223372036854775807 → Below w.heap.size w w' → wpList Tryz.prog ops Q rest (a.put o.dst (.slice (some ⟨w.heap.size, 0, none⟩) k c)) w') : wpList Tryz.prog ops Q (o :: rest) a w := by
  obtain ⟨i0, hi, hz0, hz1, hz2⟩ := info_parts u8_info'
  have hfit : Builtin.nextslicecap (0 + k) 0 * i0.bytes ≤ 281474976710656 := by
    rw [hz2]
    unfold Builtin.nextslicecap
    simp only [Nat.zero_add]
    split <;> simp <;> omega
  have hrun := Lib.run_append_grow_zeros (P := Tryz.prog) w 31 3 o.type 5 i0 (.int .u8 0) .i64 .i64 Tryz.underlying31 Tryz.underlying3 hi hz0 none 0 0 [] (by simp [Builtin.firstCells]) k h0 (by rw [hz1]; omega) (by omega) (by omega) (by rw [hz2]; omega) hfit
  refine wpList_plain hgd fun K hK => ?_
  rw [Nat.zero_add] at hrun
  have hge := grownCap_ge w k 0 5
  have hle := grownCap_le_maxLen w k 0 5 (by simp only [maxLen]; omega)
  have ho1 : OB w.heap.size (w.drew.alloc (.cells (([] : List Value).toArray ++ Builtin.zeroCells (Value.int .u8 0).cells k ++ Builtin.zeroCells (Value.int .u8 0).cells (grownCap w k 0 5 - k)) 5)) (some ⟨w.heap.size, 0, none⟩) (grownCap w k 0 5) [] :=
    ⟨rfl, .inr ⟨w.heap.size, _, _, rfl, Nat.le_refl _, heap_alloc_new w.drew _, Nat.zero_le _, hle, by simp [size_zeroCells, Value.cells]; omega, by simp [cellsB]⟩⟩
  have hb1 : Below w.heap.size w (w.drew.alloc (.cells (([] : List Value).toArray ++ Builtin.zeroCells (Value.int .u8 0).cells k ++ Builtin.zeroCells (Value.int .u8 0).cells (grownCap w k 0 5 - k)) 5)) := (Below.refl _ w).drew.alloc (Nat.le_refl _) _
  unfold Oper.wp
  simp only [execOp, ho, resolve, invoke, builtin, Sem.run_bind, Sem.run_pure, Result.andThen_ok, List.map_toArray, List.map_cons, List.map_nil, hs, hx, hrun]
  exact hK _ _ (h _ _ ho1 hge (by simpa [maxLen] using hle) hb1)

set_option maxHeartbeats 1000000 in
theorem Grow_any (n : Nat) (w : World) (h0 : 0 < n) (hn : n ≤ 1000000) : Calls Tryz.prog 102 #[.slice none 0 0, .int .i64 (n : Int)] w fun e w' => (∃ A c, e = .returned (.slice A 0 c) ∧ OB w.heap.size w' A c []) ∧ Below w.heap.size w w' := by
  have hni : (n : Int) ≤ 1000000 := by omega
  have h0i : (0 : Int) < (n : Int) := by omega
  go_enter Tryz.func102, Tryz.ntmps102
  go_wp2_with (at_builtin; refine wpList_grow _ rfl (.tmp 20) (.tmp 21) rfl n rfl rfl h0 hn ?_; intro c1 w1 ho1 hc1 hc2 hb1; have HO1 := Lib.hid ho1; clear ho1)
  go_ret
  exact ⟨⟨_, c1, rfl, HO1.out⟩, hb1⟩

/-- The first i rows, one behind the other. -/
def catL (rs : List BRow) (i : Nat) : List UInt8 := (rs.take i).flatMap BRow.l
theorem catL_succ {rs : List BRow} {i : Nat} {r : BRow} (h : rs[i]? = some r) : catL rs (i + 1) = catL rs i ++ r.l := by
  obtain ⟨hi, he⟩ := List.getElem?_eq_some_iff.1 h
  rw [catL, List.take_succ_eq_append_getElem hi, List.flatMap_append, he]
  simp [catL]
theorem catL_le (rs : List BRow) {i n : Nat} (h : i ≤ n) : (catL rs i).length ≤ (catL rs n).length := by
  have e : (rs.take n).take i = rs.take i := by rw [List.take_take, Nat.min_eq_left h]
  have this := (List.take_append_drop i (rs.take n)).symm
  rw [e] at this
  rw [catL, catL, this, List.flatMap_append, List.length_append]
  omega
theorem RR.cellAt {w : World} {A : Option Addr} {c : Nat} {rs : List BRow} (h : RR w A c rs) {i : Nat} (hi : i < rs.length) :
    ∃ b off r, A = some ⟨b, off, none⟩ ∧ b < w.heap.size ∧ rs[i]? = some r ∧ w.cell? ⟨b, off + i, none⟩ = some (.slice r.A r.l.length r.c) ∧ BR w r.A r.c r.l := by
  obtain ⟨b, off, e, hb, v, hv, hc⟩ := Rd.at1 h.1 hi
  have hr : rs[i]? = some rs[i] := List.getElem?_eq_getElem hi
  rw [List.getElem?_map, hr] at hv
  injection hv with hv
  subst hv
  exact ⟨b, off, rs[i], e, hb, hr, hc, h.2 _ (List.getElem_mem hi)⟩
theorem RR.on {w w' : World} {A : Option Addr} {c : Nat} {rs : List BRow} (h : RR w A c rs) (hb : Below w.heap.size w w') : RR w' A c rs := ⟨h.1.below hb, fun r hr => (h.2 r hr).below hb⟩

set_option maxHeartbeats 1000000 in
set_option maxRecDepth 100000 in
theorem Concat_any (A : Option Addr) (c : Nat) (rs : List BRow) (w : World) {n N : Nat} (hn : rs.length = n) (h : RR w A c rs) (hN : (catL rs n).length = N) (h0 : 0 < N) (hb : N ≤ 1000000) :
    Calls Tryz.prog 69 #[.slice A n c] w fun e w' => (∃ A' c', e = .returned (.slice A' N c') ∧ OB w.heap.size w' A' c' (catL rs n)) ∧ Below w.heap.size w w' := by
  have HN := Lib.hid hn
  have HNN := Lib.hid hN
  have H := Lib.hid h
  have hni : (N : Int) ≤ 1000000 := by omega
  have hnl : (n : Int) ≤ 140737488351232 := by have := h.1.len; omega
  have HGR : Hid (∀ W, Calls Tryz.prog 102 #[.slice none 0 0, .int .i64 (N : Int)] W fun e w' => (∃ A c, e = .returned (.slice A 0 c) ∧ OB W.heap.size w' A c []) ∧ Below W.heap.size W w') := fun W => Grow_any N W h0 hb
  clear hn hN h
  go_enter Tryz.func69, Tryz.ntmps69
  go_wp2_with fail
  go_loop [3, 11] (fun vs vi => ∃ (i m : Nat), i ≤ n ∧ vi = .int .i64 (i : Int) ∧ vs = .int .i64 (m : Int) ∧ Hid ((catL rs i).length = m)) (fun _ vi => n - (intOf vi).toNat)
  case atStart => exact ⟨0, 0, by omega, rfl, rfl, rfl⟩
  case round =>
    obtain ⟨i, m, hi, rfl, rfl, HM⟩ := hrel
    have hmN : m ≤ N := by have h1 := catL_le rs hi; rw [HM.out, HNN.out] at h1; exact h1
    have hmi : (m : Int) ≤ 1000000 := by omega
    by_cases hlt : i < n
    · have hii : (i : Int) < n := by omega
      obtain ⟨b, off, r, rfl, hbb, hr, hc, hR⟩ := H.out.cellAt (i := i) (by have := HN.out; omega)
      have HCS := Lib.hid (catL_succ hr)
      have hm2 : m + r.l.length ≤ N := by have h1 := catL_le rs (show i + 1 ≤ n from hlt); rw [HCS.out, List.length_append, HM.out, HNN.out] at h1; exact h1
      obtain ⟨RA, rc, rl⟩ := r
      dsimp only at hc hm2 HCS
      obtain ⟨rn, hrn⟩ : ∃ rn, rl.length = rn := ⟨_, rfl⟩
      rw [hrn] at hc hm2
      have HRN := Lib.hid hrn
      have hm2i : (m : Int) + (rn : Int) ≤ 1000000 := by omega
      clear hr hR hrn
      go_wp2_with fail
      go_round
      case rel => exact ⟨i + 1, m + rn, by omega, by go_num, by go_num, by unfold Hid; rw [HCS.out, List.length_append, HM.out, HRN.out]⟩
      case measure => simp [intOf]; omega
    · obtain rfl : i = n := by omega
      obtain rfl : m = N := by rw [← HM.out, HNN.out]
      have hii : (i : Int) ≤ i := Int.le_refl _
      go_wp2_with (go_at_call 102; refine (HGR.out _).mono ?_; rintro e w1 ⟨⟨A1, c1, rfl, ho1⟩, hb1⟩; have HO1 := Lib.hid ho1; clear ho1)
      go_loopw [6, 27] (fun vo vi wr => ∃ (j q : Nat) (A' : Option Addr) (c' : Nat), j ≤ i ∧ vi = .int .i64 (j : Int) ∧ vo = .slice A' q c' ∧ Hid ((catL rs j).length = q) ∧ Hid (OB w.heap.size wr A' c' (catL rs j)) ∧ Below w.heap.size w wr) (fun _ vi _ => i - (intOf vi).toNat)
      case atStart => exact ⟨0, 0, A1, c1, by omega, rfl, rfl, rfl, HO1.out, hb1⟩
      case round =>
        obtain ⟨j, q, A', c', hj, rfl, rfl, HQ, HO, hbel⟩ := hrel
        by_cases hlt2 : j < i
        · have hji : (j : Int) < i := by omega
          obtain ⟨b, off, r, rfl, hbb, hr, hc, hR⟩ := (H.out.on hbel).cellAt (i := j) (by have := HN.out; omega)
          have HCS := Lib.hid (catL_succ hr)
          have hm2 : q + r.l.length ≤ m := by have h1 := catL_le rs (show j + 1 ≤ i from hlt2); rw [HCS.out, List.length_append, HQ.out, HNN.out] at h1; exact h1
          obtain ⟨RA, rc, rl⟩ := r
          dsimp only at hc hm2 HCS hR
          obtain ⟨rn, hrn⟩ : ∃ rn, rl.length = rn := ⟨_, rfl⟩
          rw [hrn] at hc hm2
          have HRN := Lib.hid hrn
          have HR := Lib.hid hR
          clear hr hR hrn
          go_wp2_with (at_builtin; refine wpList_append_bytes _ rfl (.tmp 31) (.tmp 32) rfl w.heap.size A' q c' (catL rs j) HQ.out rfl HO.out RA rn rc rl HRN.out rfl (HR.out.src HRN.out) (by omega) hbel.size ?_; intro A5 c5 w5 hon5 hbl5 hg5; have HON5 := Lib.hid hon5; have b5 := hbel.trans hbl5; clear hon5 hg5 hbl5)
          go_roundw
          case rel => exact ⟨j + 1, q + rn, A5, c5, by omega, by go_num, rfl, by unfold Hid; rw [HCS.out, List.length_append, HQ.out, HRN.out], by rw [HCS.out]; exact HON5.out, b5⟩
          case measure => simp [intOf]; omega
        · obtain rfl : j = i := by omega
          obtain rfl : q = m := by rw [← HQ.out, HNN.out]
          go_wp2_with fail
          go_ret
          exact ⟨⟨A', c', rfl, HO.out⟩, hbel⟩
end Go.Proofs.YtchnaimpmegbkaaGreatDoor

/- Lists of keys in memory. -/
namespace Go.Proofs.YtchnaimpmegbkaaGreatDoor
open Go.RowKit
set_option linter.unusedVariables false

def cellsK (ks : List (List UInt8)) : List Value := ks.flatMap cellsB
def Keys16 (ks : List (List UInt8)) : Prop := ∀ k ∈ ks, k.length = 16
theorem Keys16.take {ks : List (List UInt8)} (h : Keys16 ks) (n : Nat) : Keys16 (ks.take n) := fun k hk => h k (List.mem_of_mem_take hk)
theorem Keys16.drop {ks : List (List UInt8)} (h : Keys16 ks) (n : Nat) : Keys16 (ks.drop n) := fun k hk => h k (List.mem_of_mem_drop hk)
theorem cellsK_length : ∀ {ks : List (List UInt8)}, Keys16 ks → (cellsK ks).length = ks.length * 16
  | [], _ => rfl
  | k :: ks, h => by
    have h1 := h k List.mem_cons_self
    have h2 := cellsK_length (ks := ks) fun x hx => h x (List.mem_cons_of_mem _ hx)
    unfold cellsK at h2 ⊢
    rw [List.flatMap_cons, List.length_append, h2, cellsB_length, h1, List.length_cons]
    omega
theorem cellsK_append (a b : List (List UInt8)) : cellsK (a ++ b) = cellsK a ++ cellsK b := by simp [cellsK]
theorem cellsK_one (a : List UInt8) : cellsK [a] = cellsB a := by simp [cellsK]
theorem cellsK_take {ks : List (List UInt8)} (h : Keys16 ks) (n : Nat) (hn : n ≤ ks.length) : (cellsK ks).take (n * 16) = cellsK (ks.take n) := by
  have h1 : (cellsK (ks.take n)).length = n * 16 := by rw [cellsK_length (h.take n), List.length_take, Nat.min_eq_left hn]
  conv => lhs; rw [← List.take_append_drop n ks, cellsK_append]
  rw [List.take_append_of_le_length (by omega), List.take_of_length_le (by omega)]
theorem cellsK_drop {ks : List (List UInt8)} (h : Keys16 ks) (n : Nat) (hn : n ≤ ks.length) : (cellsK ks).drop (n * 16) = cellsK (ks.drop n) := by
  have h1 : (cellsK (ks.take n)).length = n * 16 := by rw [cellsK_length (h.take n), List.length_take, Nat.min_eq_left hn]
  conv => lhs; rw [← List.take_append_drop n ks, cellsK_append]
  rw [List.drop_append_of_le_length (by omega), List.drop_of_length_le (by omega), List.nil_append]
theorem cells_oneK (ks : List (List UInt8)) : ∀ v ∈ cellsK ks, v.oneCell' = true := fun v hv => by
  obtain ⟨k, _, hv⟩ := List.mem_flatMap.1 hv
  exact cells_one k v hv
/-- A slice that reads as keys. -/
def KR (w : World) (A : Option Addr) (c : Nat) (ks : List (List UInt8)) : Prop := Rd w 16 A c ks.length (cellsK ks) ∧ Keys16 ks
section
variable {w w' : World} {c : Nat} {A : Option Addr} {ks : List (List UInt8)}
theorem KR.below (h : KR w A c ks) (hb : Below w.heap.size w w') : KR w' A c ks := ⟨Rd.below h.1 hb, h.2⟩
theorem KR.len (h : KR w A c ks) : ks.length ≤ 140737488351232 := Rd.len h.1
theorem KR.at_ (h : KR w A c ks) {i : Nat} (hi : i < ks.length) : ∃ b off, A = some ⟨b, off, none⟩ ∧ b < w.heap.size ∧ w.rangeAt b (off + i * 16) (cellsB ks[i]) := by
  obtain ⟨b, off, e, hb, hc⟩ := h.1.2 (by omega)
  refine ⟨b, off, e, hb, fun j v hv => ?_⟩
  rw [Nat.add_assoc]
  refine hc (i * 16 + j) v ?_
  have h1 := cellsK_drop h.2 i (by omega)
  have h2 : (cellsK (ks.drop i))[j]? = some v := by
    rw [List.drop_eq_getElem_cons hi]
    unfold cellsK
    rw [List.flatMap_cons, List.getElem?_append_left ?_, hv]
    rcases Nat.lt_or_ge j (cellsB ks[i]).length with h' | h'
    · exact h'
    · rw [List.getElem?_eq_none h'] at hv; cases hv
  rw [← h1, List.getElem?_drop] at h2
  exact h2
/-- The beginning of a list. -/
theorem KR.take (h : KR w A c ks) (n : Nat) (hn : n ≤ ks.length) : KR w A c (ks.take n) := by
  have hle := Rd.le h.1
  have hl := Rd.len h.1
  have hcp := Rd.cap h.1
  refine ⟨⟨⟨cellsK_length (h.2.take n), by rw [List.length_take]; omega, hcp, by rw [List.length_take]; omega⟩, fun hne => ?_⟩, h.2.take n⟩
  rw [List.length_take] at hne
  obtain ⟨b, off, e, hb, hc⟩ := h.1.2 (by omega)
  refine ⟨b, off, e, hb, fun j v hv => hc j v ?_⟩
  rw [← cellsK_take h.2 n hn, List.getElem?_take] at hv
  split at hv
  · exact hv
  · cases hv
/-- Where a cut 'l[n:]' of keys leads. -/
def dropK (A : Option Addr) (n c : Nat) : Option Addr := if c = n then A else A.map fun x => x.add (n * 16)
theorem KR.drop (h : KR w A c ks) (n : Nat) (hn : n ≤ ks.length) : KR w (dropK A n c) (c - n) (ks.drop n) := by
  have hle := Rd.le h.1
  have hl := Rd.len h.1
  have hcp := Rd.cap h.1
  refine ⟨⟨⟨cellsK_length (h.2.drop n), by rw [List.length_drop]; omega, by omega, by rw [List.length_drop]; omega⟩, fun hne => ?_⟩, h.2.drop n⟩
  rw [List.length_drop] at hne
  obtain ⟨b, off, e, hb, hc⟩ := h.1.2 (by omega)
  refine ⟨b, off + n * 16, by rw [dropK, if_neg (by omega), e]; simp [Addr.add], hb, fun j v hv => ?_⟩
  rw [Nat.add_assoc]
  refine hc (n * 16 + j) v ?_
  rw [← cellsK_drop h.2 n hn, List.getElem?_drop] at hv
  exact hv
end
/-- The cuts themselves. -/
theorem slice_keys_from (W : World) (A : Option Addr) (m c n : Nat) (h : n ≤ m) :
    (Instr.slice 35 (.slice A m c) (some (.int .i64 (n : Int))) none none).run Tryz.prog W = .ok (.slice (dropK A n c) (m - n) (c - n)) W := by
  have e : Tryz.prog.elem 35 = 23 := by kernel_rfl
  rw [run_slice_l (P := Tryz.prog) (w := W) 35 A m c (by rw [e]; exact Tryz.underlying35) .i64 n (by omega) (by omega), e, Tryz.sizeOf23 W]
  simp [Result.andThen, sliced, dropK]
theorem slice_keys_to (W : World) (A : Option Addr) (m c n : Nat) (h : n ≤ c) :
    (Instr.slice 35 (.slice A m c) none (some (.int .i64 (n : Int))) none).run Tryz.prog W = .ok (.slice A n c) W := by
  have e : Tryz.prog.elem 35 = 23 := by kernel_rfl
  rw [run_slice_h (P := Tryz.prog) (w := W) 35 A m c (by rw [e]; exact Tryz.underlying35) .i64 n (by omega) (by omega), e, Tryz.sizeOf23 W]
  simp [Result.andThen, sliced]
  intro _
  rcases A with _ | ⟨b, o, s⟩
  · rfl
  · cases s <;> simp [Addr.add]
/-- Keys that the call owns. -/
def OK16 (B : Nat) (w : World) (A : Option Addr) (c : Nat) (ks : List (List UInt8)) : Prop := w.ownsRow B 23 16 (.slice A ks.length c) ks.length (cellsK ks)
theorem key_info3 : (Tryz.prog.info? 23).map (fun i => (i.zero, i.size, i.bytes)) = some (some (.agg (cellsB zeroK).toArray), 16, 16) := by kernel_rfl
end Go.Proofs.YtchnaimpmegbkaaGreatDoor

/- The texts of leaves and nodes. -/
namespace Go.Proofs.YtchnaimpmegbkaaGreatDoor
open Go.RowKit
set_option linter.unusedVariables false

def leafX (k : List UInt8) : List UInt8 := 0 :: k
def nodeX (a b : List UInt8) : List UInt8 := 1 :: (a ++ b)
theorem Blk.src {w : World} {g : Nat} {t : TypeId} {l : List UInt8} (h : Blk w g t (cellsB l).toArray) {n : Nat} (hn : l.length = n) : Src w 1 (some ⟨g, 0, none⟩) n (cellsB l) := by
  subst hn
  refine ⟨by simp [cellsB], .inr ⟨_, rfl, fun j u hu => ?_⟩⟩
  rw [Addr.add_lit, Nat.zero_add, h.cell j]
  simpa using hu
theorem lit_after (w : World) (o : Obj) (x : UInt8) : OB w.heap.size ((w.alloc o).alloc (.cells #[.int .u8 (x.toNat : Int)] 5)) (some ⟨w.heap.size + 1, 0, none⟩) 1 [x] := by
  have h := OB.lit w.heap.size (w.alloc o) [x] (by simp) (by simp) (n := 1) rfl
  rw [World.size_alloc] at h
  exact h
set_option maxHeartbeats 1000000 in
theorem leafText_any (k : List UInt8) (w : World) (hk : k.length = 16) : Calls Tryz.prog 35 #[.agg (cellsB k).toArray] w fun e w' => (∃ A c, e = .returned (.slice A 17 c) ∧ OB w.heap.size w' A c (leafX k)) ∧ Below w.heap.size w w' := by
  have HK := Lib.hid hk
  have HL := Lib.hid (lit_after w (.cells (cellsB k).toArray 23) 0)
  have HB := Lib.hid (blk_b0 w (cellsB k).toArray 23 (.cells #[.int .u8 ((0 : UInt8).toNat : Int)] 5))
  have b0 := alloc2_bel w (.cells (cellsB k).toArray 23) (.cells #[.int .u8 ((0 : UInt8).toNat : Int)] 5)
  clear hk
  go_enter Tryz.func35, Tryz.ntmps35
  go_wp2_with (at_builtin; refine wpList_append_bytes _ rfl (.tmp 3) (.tmp 4) rfl w.heap.size (some ⟨w.heap.size + 1, 0, none⟩) 1 1 [0] rfl rfl HL.out (some ⟨w.heap.size, 0, none⟩) 16 16 k HK.out rfl (HB.out.src HK.out) (by omega) (by simp; omega) ?_; intro A5 c5 w5 hon5 hbl5 hg5; have HON5 := Lib.hid hon5; have b5 := b0.trans hbl5; clear hon5 hg5 hbl5)
  go_ret
  exact ⟨⟨A5, c5, rfl, HON5.out⟩, b5⟩
end Go.Proofs.YtchnaimpmegbkaaGreatDoor

/- The program's digest of a text that is not too long, and of a leaf. -/
namespace Go.Proofs.YtchnaimpmegbkaaGreatDoor
open Go.RowKit
set_option linter.unusedVariables false
attribute [local go_sem] run_storeCells_key run_storeCells_new

set_option maxHeartbeats 1000000 in
set_option maxRecDepth 100000 in
theorem digest_any (b : List UInt8) (A : Option Addr) (c : Nat) (w : World) {L : Nat} (hL : b.length = L) (h : BR w A c b) (hl : L ≤ 16384) :
    Calls Tryz.prog 68 #[.slice A L c] w fun e w' => e = .returned (.agg (cellsB (digS b)).toArray) ∧ Below w.heap.size w w' := by
  have HZ := Lib.hid zero16
  have b0 := alloc_bel w (.cells (cellsB zeroK).toArray 23)
  have B0 := Lib.hid (Blk.new w 23 (cellsB zeroK).toArray)
  have HH : Hid (∀ W, Below w.heap.size w W → Calls Tryz.prog 39 #[.slice A L c] W fun e w' => e = .returned (.tuple #[.agg (cellsB (digS b)).toArray, .int .i64 0]) ∧ Below W.heap.size W w') := fun W hW => Hash_any b A c W hL (h.below hW) hl
  have HDL : Hid ((digS b).length = 16) := digS_length b
  generalize digS b = d at HH HDL
  have hdc : (cellsB d).length = 16 := by rw [cellsB_length, HDL.out]
  have hall := all16 d
  clear hL h hl
  go_enter Tryz.func68, Tryz.ntmps68
  go_wp2_with (first
    | (go_at_call 39; rw [HZ.out]; refine (HH.out _ b0).mono ?_; rintro e w1 ⟨rfl, hb1⟩; have b1 := bel_on b0 hb1; have Q1 := (B0.out.below' hb1).alloc (.cells (cellsB d).toArray 23); have hr1 : (rowAt (w1.alloc (.cells (cellsB d).toArray 23)) w.heap.size).size = 16 := (by rw [Q1.row]; rfl); have hf1 := Q1.free; have HQ1 := Lib.hid Q1; clear Q1)
    | (refine wpList_load_row rfl 23 (.tmp 3) rfl w1.heap.size rfl 23 (cellsB d).toArray (0, 0) _ (Blk.new w1 _ _) under_key rfl (cellsB_size _ HDL.out) ?_))
  exact bodyPost_ret (results_cell_row rfl _ _ w.heap.size _ _ (0, 0) _ rfl (HQ1.out.setRow (cellsB d).toArray) under_key rfl (cellsB_size _ HDL.out)) rfl ⟨rfl, below_setRow (b1.alloc b1.size _) (Nat.le_refl _) _⟩
set_option maxHeartbeats 1000000 in
set_option maxRecDepth 100000 in
theorem leafHash_any (k : List UInt8) (w : World) (hk : k.length = 16) :
    Calls Tryz.prog 98 #[.agg (cellsB k).toArray] w fun e w' => e = .returned (.agg (cellsB (digS (leafT k))).toArray) ∧ Below w.heap.size w w' := by
  have HZ := Lib.hid zero16
  have HK := Lib.hid hk
  have b0 := alloc2_bel w (.cells (cellsB k).toArray 23) (.cells (cellsB zeroK).toArray 23)
  have B1 := Lib.hid (blk_b1 w (.cells (cellsB k).toArray 23) (cellsB zeroK).toArray 23)
  have HLT : Hid (∀ W, Calls Tryz.prog 35 #[.agg (cellsB k).toArray] W fun e w' => (∃ A c, e = .returned (.slice A 17 c) ∧ OB W.heap.size w' A c (leafT k)) ∧ Below W.heap.size W w') := fun W => leafText_any k W hk
  have HLL : Hid ((leafT k).length = 17) := by unfold Hid leafT; simp [hk]
  have HD : Hid (∀ W A c, BR W A c (leafT k) → Calls Tryz.prog 68 #[.slice A 17 c] W fun e w' => e = .returned (.agg (cellsB (digS (leafT k))).toArray) ∧ Below W.heap.size W w') := fun W A c h => digest_any (leafT k) A c W HLL.out h (by omega)
  have HDL : Hid ((digS (leafT k)).length = 16) := digS_length _
  generalize digS (leafT k) = d at HD HDL
  generalize leafT k = t at HLT HD HLL
  have hdc : (cellsB d).length = 16 := by rw [cellsB_length, HDL.out]
  have hall := all16 d
  clear hk
  go_enter Tryz.func98, Tryz.ntmps98
  go_wp2_with (first
    | (rw [HZ.out]; refine wpList_load_row rfl 23 (.tmp 1) rfl w.heap.size rfl 23 (cellsB k).toArray (0, 0) _ (blk_b0 w _ _ _) under_key rfl (cellsB_size _ HK.out) ?_)
    | (go_at_call 35; refine (HLT.out _).mono ?_; rintro e w1 ⟨⟨A1, c1, rfl, ho1⟩, hb1⟩; have HO1 := Lib.hid (ho1.br (by rw [HLL.out]; omega)); have b1 := bel_on b0 hb1; clear ho1)
    | (go_at_call 68; refine (HD.out _ _ _ HO1.out).mono ?_; rintro e w2 ⟨rfl, hb2⟩; have b2 := bel_on b1 hb2; have Q2 := (B1.out.below' hb1).below' hb2; have hr2 : (rowAt w2 (w.heap.size + 1)).size = 16 := (by rw [Q2.row]; rfl); have hf2 := Q2.free; have HQ2 := Lib.hid Q2; clear Q2))
  exact bodyPost_ret (results_cell_row rfl _ _ (w.heap.size + 1) _ _ (0, 0) _ rfl (HQ2.out.setRow (cellsB d).toArray) under_key rfl (cellsB_size _ HDL.out)) rfl ⟨rfl, below_setRow b2 (by omega) _⟩
end Go.Proofs.YtchnaimpmegbkaaGreatDoor

/- The program's text of a node, and its digest. -/
namespace Go.Proofs.YtchnaimpmegbkaaGreatDoor
open Go.RowKit
set_option linter.unusedVariables false
attribute [local go_sem] run_storeCells_key run_storeCells_new

theorem Blk.brn {w : World} {g : Nat} {t : TypeId} {l : List UInt8} (h : Blk w g t (cellsB l).toArray) {n : Nat} (hn : l.length = n) (hs : n ≤ 1000000) : BR w (some ⟨g, 0, none⟩) n l := by
  subst hn
  refine ⟨⟨by rw [cellsB_length, Nat.mul_one], Nat.le_refl _, by omega, by omega⟩, fun _ => ⟨g, 0, rfl, h.lt, fun j v hv => ?_⟩⟩
  rw [Nat.zero_add, h.cell j]
  simpa using hv

set_option maxHeartbeats 1000000 in
set_option maxRecDepth 100000 in
theorem nodeText_any (a b : List UInt8) (w : World) (ha : a.length = 16) (hb : b.length = 16) : Calls Tryz.prog 37 #[.agg (cellsB a).toArray, .agg (cellsB b).toArray] w fun e w' => (∃ A c, e = .returned (.slice A 33 c) ∧ OB w.heap.size w' A c (nodeX a b)) ∧ Below w.heap.size w w' := by
  have HA := Lib.hid ha
  have HB := Lib.hid hb
  have b0 := alloc2_bel w (.cells (cellsB a).toArray 23) (.cells (cellsB b).toArray 23)
  have B0 := Lib.hid (blk_b0 w (cellsB a).toArray 23 (.cells (cellsB b).toArray 23))
  have B1 := Lib.hid (blk_b1 w (.cells (cellsB a).toArray 23) (cellsB b).toArray 23)
  clear ha hb
  go_enter Tryz.func37, Tryz.ntmps37
  go_wp2_with fail
  obtain ⟨W0, hW0⟩ : ∃ W : World, W = (w.alloc (.cells (cellsB a).toArray 23)).alloc (.cells (cellsB b).toArray 23) := ⟨_, rfl⟩
  rw [← hW0] at b0 B0 B1 ⊢
  clear hW0
  refine wp_region_noPanic ?_
  refine wp_region_held_drew (S := fun _ => True) (by kernel_rfl) trivial (fun hS => ?_)
  refine hd_take 1 (.slice (some ⟨w.heap.size, 0, none⟩) 16 16) rfl rfl (by kernel_rfl) (by kernel_rfl) (by kernel_rfl) (fun _ _ _ h => h) (fun w _ => by go_simp) hS ?_
  refine hd_take 2 (.slice (some ⟨w.heap.size + 1, 0, none⟩) 16 16) rfl rfl (by kernel_rfl) (by kernel_rfl) (by kernel_rfl) (fun _ _ _ h => h) (fun w _ => by go_simp) hS ?_
  obtain ⟨g, hg⟩ : ∃ g, W0.drew.heap.size = g := ⟨_, rfl⟩
  have N1 : Blk (W0.drew.alloc (.cells (cellsB [1]).toArray 5)) g 5 (cellsB [1]).toArray := by rw [← hg]; exact Blk.new _ _ _
  have b1 := b0.drew.alloc b0.drew.size (.cells (cellsB [1]).toArray 5)
  have C0 := B0.out.drew.alloc (.cells (cellsB [1]).toArray 5)
  have C1 := B1.out.drew.alloc (.cells (cellsB [1]).toArray 5)
  refine hd_sole 0 (by kernel_rfl) (op_run (.slice (some ⟨g, 0, none⟩) 1 1) (W0.drew.alloc (.cells (cellsB [1]).toArray 5)) rfl rfl (by rw [← hg]; go_simp; try rfl) ⟨trivial, ?_⟩)
  generalize W0.drew.alloc (.cells (cellsB [1]).toArray 5) = W1 at N1 b1 C0 C1 ⊢
  simp only [List.getElem_toArray, List.getElem_cons_succ, List.getElem_cons_zero, Act.put, List.setIfInBounds_toArray, List.set_cons_zero, List.set_cons_succ]
  obtain ⟨g2, hg2⟩ : ∃ g2, W1.heap.size = g2 := ⟨_, rfl⟩
  obtain ⟨rs, hrs⟩ : ∃ rs : List BRow, rs = [⟨some ⟨g, 0, none⟩, 1, [1]⟩, ⟨some ⟨w.heap.size, 0, none⟩, 16, a⟩, ⟨some ⟨w.heap.size + 1, 0, none⟩, 16, b⟩] := ⟨_, rfl⟩
  have hcells : (rs.map BRow.v).toArray = #[.slice (some ⟨g, 0, none⟩) 1 1, .slice (some ⟨w.heap.size, 0, none⟩) 16 16, .slice (some ⟨w.heap.size + 1, 0, none⟩) 16 16] := by rw [hrs]; simp [BRow.v, HA.out, HB.out]
  have hrl : rs.length = 3 := by rw [hrs]; rfl
  have hcat : catL rs 3 = nodeX a b := by rw [hrs]; simp [catL, nodeX]
  have hnl : (nodeX a b).length = 33 := by simp [nodeX, HA.out, HB.out]
  have b2 := b1.alloc b1.size (.cells (rs.map BRow.v).toArray 31)
  have hRR : RR (W1.alloc (.cells (rs.map BRow.v).toArray 31)) (some ⟨g2, 0, none⟩) 3 rs := by
    refine ⟨⟨⟨by rw [List.length_map, Nat.mul_one], by omega, by omega, by omega⟩, fun _ => ⟨g2, 0, rfl, by rw [← hg2]; simp, fun j v hv => ?_⟩⟩, fun r hr => ?_⟩
    · rw [Nat.zero_add, ← hg2, (Blk.new W1 31 (rs.map BRow.v).toArray).cell j]
      simpa using hv
    · rw [hrs] at hr
      simp only [List.mem_cons, List.not_mem_nil, or_false] at hr
      rcases hr with rfl | rfl | rfl
      · exact (N1.alloc _).brn (n := 1) rfl (by omega)
      · exact (C0.alloc _).brn (n := 16) HA.out (by omega)
      · exact (C1.alloc _).brn (n := 16) HB.out (by omega)
  refine hd_sole 3 (by kernel_rfl) (op_run (.slice (some ⟨g2, 0, none⟩) 3 3) (W1.alloc (.cells (rs.map BRow.v).toArray 31)) rfl rfl (by rw [← hg2, hcells]; go_simp) ⟨trivial, ?_⟩)
  generalize W1.alloc (.cells (rs.map BRow.v).toArray 31) = W2 at b2 hRR ⊢
  simp only [List.getElem_toArray, List.getElem_cons_succ, List.getElem_cons_zero, Act.put, List.setIfInBounds_toArray, List.set_cons_zero, List.set_cons_succ]
  refine hd_calls 4 69 #[.slice (some ⟨g2, 0, none⟩) 3 3] rfl rfl (by kernel_rfl) (by go_simp) ((Concat_any (some ⟨g2, 0, none⟩) 3 rs W2 hrl hRR (N := 33) (by rw [hcat, hnl]) (by omega) (by omega)).mono ?_)
  rintro e w5 ⟨⟨A5, c5, rfl, ho5⟩, hb5⟩
  rw [hcat] at ho5
  refine ⟨_, rfl, trivial, ?_⟩
  refine hd_take 5 (.slice A5 33 c5) rfl rfl (by kernel_rfl) (by kernel_rfl) (by kernel_rfl) (fun _ _ _ h => h) (fun w _ => by go_simp) trivial ?_
  refine wpAnyH_done (by kernel_rfl) (NoPanic.normal ?_) _
  simp only [List.getElem_toArray, List.getElem_cons_succ, List.getElem_cons_zero, Act.put, List.setIfInBounds_toArray, List.set_cons_zero, List.set_cons_succ]
  have HO5 := Lib.hid (OB.le_ (B' := w.heap.size) ho5 b2.size)
  have bF := bel_on b2 hb5
  clear ho5
  go_wp2_with fail
  go_ret
  exact ⟨⟨A5, c5, rfl, HO5.out⟩, bF⟩
end Go.Proofs.YtchnaimpmegbkaaGreatDoor

/- Proofs and growths in plain words: which fit, what roots and texts they give, and what follows if they are accepted. -/
namespace Go.Proofs.YtchnaimpmegbkaaGreatDoor
set_option linter.unusedVariables false

/-- How many entries a path has. -/
def stepsS (n i : Nat) : Nat :=
  if h : n ≤ 1 then 0
  else
    have := splitS_lt (n := n) (by omega)
    have := splitS_pos n
    if i < splitS n then 1 + stepsS (splitS n) i else 1 + stepsS (n - splitS n) (i - splitS n)
termination_by n
decreasing_by all_goals omega
theorem stepsS_one {n : Nat} (h : n ≤ 1) (i : Nat) : stepsS n i = 0 := by rw [stepsS, dif_pos h]
theorem stepsS_low {n i : Nat} (h : 2 ≤ n) (hi : i < splitS n) : stepsS n i = 1 + stepsS (splitS n) i := by
  rw [stepsS, dif_neg (by omega)]
  exact if_pos hi
theorem stepsS_high {n i : Nat} (h : 2 ≤ n) (hi : ¬ i < splitS n) : stepsS n i = 1 + stepsS (n - splitS n) (i - splitS n) := by
  rw [stepsS, dif_neg (by omega)]
  exact if_neg hi

def lastK (l : List (List UInt8)) : List UInt8 := l.getD (l.length - 1) []
def initK (l : List (List UInt8)) : List (List UInt8) := l.take (l.length - 1)
theorem initK_length (l : List (List UInt8)) : (initK l).length = l.length - 1 := by simp [initK]
theorem lastK_snoc (l : List (List UInt8)) (x : List UInt8) : lastK (l ++ [x]) = x := by simp [lastK]
theorem initK_snoc (l : List (List UInt8)) (x : List UInt8) : initK (l ++ [x]) = l := by simp [initK]
theorem lastK_mem {l : List (List UInt8)} (h : 0 < l.length) : lastK l ∈ l := by
  unfold lastK
  rw [List.getD_eq_getElem?_getD, List.getElem?_eq_getElem (by omega)]
  exact List.getElem_mem _
theorem initK_mem {l : List (List UInt8)} {x : List UInt8} (h : x ∈ initK l) : x ∈ l := List.mem_of_mem_take h

/-- The root that a path gives for a leaf, and the texts whose digests are taken. -/
def climbS (leaf : List UInt8) (n i : Nat) (path : List (List UInt8)) : List UInt8 × List (List UInt8) :=
  if h : n ≤ 1 then (digS (leafT leaf), [leafT leaf])
  else
    have := splitS_lt (n := n) (by omega)
    have := splitS_pos n
    if i < splitS n then
      (digS (nodeT (climbS leaf (splitS n) i (initK path)).1 (lastK path)), (climbS leaf (splitS n) i (initK path)).2 ++ [nodeT (climbS leaf (splitS n) i (initK path)).1 (lastK path)])
    else
      (digS (nodeT (lastK path) (climbS leaf (n - splitS n) (i - splitS n) (initK path)).1), (climbS leaf (n - splitS n) (i - splitS n) (initK path)).2 ++ [nodeT (lastK path) (climbS leaf (n - splitS n) (i - splitS n) (initK path)).1])
termination_by n
decreasing_by all_goals omega
theorem climbS_one (leaf : List UInt8) {n : Nat} (h : n ≤ 1) (i : Nat) (path : List (List UInt8)) : climbS leaf n i path = (digS (leafT leaf), [leafT leaf]) := by rw [climbS, dif_pos h]
theorem climbS_low (leaf : List UInt8) {n i : Nat} (path : List (List UInt8)) (h : 2 ≤ n) (hi : i < splitS n) :
    climbS leaf n i path = (digS (nodeT (climbS leaf (splitS n) i (initK path)).1 (lastK path)), (climbS leaf (splitS n) i (initK path)).2 ++ [nodeT (climbS leaf (splitS n) i (initK path)).1 (lastK path)]) := by
  rw [climbS, dif_neg (by omega)]
  exact if_pos hi
theorem climbS_high (leaf : List UInt8) {n i : Nat} (path : List (List UInt8)) (h : 2 ≤ n) (hi : ¬ i < splitS n) :
    climbS leaf n i path = (digS (nodeT (lastK path) (climbS leaf (n - splitS n) (i - splitS n) (initK path)).1), (climbS leaf (n - splitS n) (i - splitS n) (initK path)).2 ++ [nodeT (lastK path) (climbS leaf (n - splitS n) (i - splitS n) (initK path)).1]) := by
  rw [climbS, dif_neg (by omega)]
  exact if_neg hi
theorem climbS_length (leaf : List UInt8) (n i : Nat) (path : List (List UInt8)) : (climbS leaf n i path).1.length = 16 := by
  rw [climbS]
  split
  · exact digS_length _
  · dsimp only
    split <;> exact digS_length _

def All16 (l : List (List UInt8)) : Prop := ∀ k ∈ l, k.length = 16
theorem All16.init {l : List (List UInt8)} (h : All16 l) : All16 (initK l) := fun k hk => h k (initK_mem hk)
theorem All16.last {l : List (List UInt8)} (h : All16 l) (hl : 0 < l.length) : (lastK l).length = 16 := h _ (lastK_mem hl)
/-- Two different texts have the same digest. -/
def Clash (ts : List (List UInt8)) : Prop := ∃ s ∈ ts, ∃ t ∈ ts, s ≠ t ∧ digS s = digS t
theorem Clash.mono {a b : List (List UInt8)} (h : Clash a) (hs : ∀ x ∈ a, x ∈ b) : Clash b := by
  obtain ⟨s, h1, t, h2, h3⟩ := h
  exact ⟨s, hs _ h1, t, hs _ h2, h3⟩
theorem pathS_steps : ∀ (n : Nat) (l : List (List UInt8)) (i : Nat), l.length = n → (pathS l i).length = stepsS n i := by
  intro n
  induction n using Nat.strongRecOn with
  | _ n ih =>
    intro l i hl
    rcases Nat.lt_or_ge n 2 with h2 | h2
    · rw [pathS_one (by omega), stepsS_one (by omega)]; rfl
    have s1 := splitS_lt h2
    have s2 := splitS_pos n
    by_cases hi : i < splitS n
    · rw [pathS_low (by omega) (by rw [hl]; exact hi), stepsS_low h2 hi, List.length_append, hl, ih (splitS n) s1 _ _ (by rw [List.length_take]; omega)]
      simp only [List.length_cons, List.length_nil]; omega
    · rw [pathS_high (by omega) (by rw [hl]; exact hi), stepsS_high h2 hi, List.length_append, hl, ih (n - splitS n) (by omega) _ _ (by rw [List.length_drop]; omega)]
      simp only [List.length_cons, List.length_nil]; omega

/-- Each leaf is proved. -/
theorem climb_path : ∀ (n : Nat) (l : List (List UInt8)) (i : Nat), l.length = n → i < n → (climbS (l.getD i []) n i (pathS l i)).1 = rootS l := by
  intro n
  induction n using Nat.strongRecOn with
  | _ n ih =>
    intro l i hl hi
    rcases Nat.lt_or_ge n 2 with h2 | h2
    · obtain rfl : n = 1 := by omega
      obtain ⟨x, rfl⟩ := List.length_eq_one_iff.1 hl
      obtain rfl : i = 0 := by omega
      rw [climbS_one _ (by omega), rootS_one]; rfl
    have s1 := splitS_lt h2
    have s2 := splitS_pos n
    by_cases hk : i < splitS n
    · have := ih (splitS n) s1 (l.take (splitS n)) i (by rw [List.length_take]; omega) hk
      rw [climbS_low _ _ h2 hk, pathS_low (by omega) (by rw [hl]; exact hk), lastK_snoc, initK_snoc, hl]
      have e : (l.take (splitS n)).getD i [] = l.getD i [] := by simp [List.getD_eq_getElem?_getD, hk]
      rw [← e, this, rootS_node (l := l) (by omega), hl]
    · have := ih (n - splitS n) (by omega) (l.drop (splitS n)) (i - splitS n) (by rw [List.length_drop]; omega) (by omega)
      rw [climbS_high _ _ h2 hk, pathS_high (by omega) (by rw [hl]; exact hk), lastK_snoc, initK_snoc, hl]
      have e : (l.drop (splitS n)).getD (i - splitS n) [] = l.getD i [] := by simp only [List.getD_eq_getElem?_getD, List.getElem?_drop]; rw [show splitS n + (i - splitS n) = i from by omega]
      rw [← e, this, rootS_node (l := l) (by omega), hl]

end Go.Proofs.YtchnaimpmegbkaaGreatDoor

/- Guarded operations in regions that draw. -/
namespace Go.Proofs.YtchnaimpmegbkaaGreatDoor
open Go.RowKit
set_option linter.unusedVariables false

section
variable {P : Program} {md : Region.Mode} {ops : Array Oper} {Q : Exit → Act → World → Prop} {S : World → Prop} {fuel : Nat} {listed : Array Bool} {a : Act} {w : World}
/-- A guarded load of a row that is wanted. -/
theorem hg_load (i : Nat) {oi : Oper} (g o : Nat) (cs : List Value) (ty : TypeId) (x : Operand) {d : TypeDesc} (hi : ops[i]? = some oi) (ho : oi.op = .load ty x) (hg : Region.wanted oi (yielded ops a.tmps) = true)
    (hs : Region.noSelect ops = true) (hf : Region.free md ops listed i = true) (hr : (Region.ready md ops listed).contains i = true) (hQ : ∀ c a w, Q (.panic c) (a.put oi.dst (.agg cs.toArray)) w → Q (.panic c) a w)
    (hx : a.eval x = .pointer (some ⟨g, o, none⟩)) (hS : ∀ w, S w → w.rangeAt g o cs) (hu : P.underlying ty = some d) (hd : d.isRow = true) (hn : (P.info? ty).map (·.size) = some cs.length) (hw : S w)
    (h : wpAnyH P md ops Q S fuel (listed.setIfInBounds i true) (a.put oi.dst (.agg cs.toArray)) w) : wpAnyH P md ops Q S (fuel + 1) listed a w :=
  wpAnyH_take hi hs hf hr hQ (yieldsIf_load_mid hg ty x ho g o hx cs d hS hu hd hn) hw h
/-- A guarded one that is wanted and yields a value. -/
theorem hg_take (i : Nat) {oi : Oper} (v : Value) (hi : ops[i]? = some oi) (hg : Region.wanted oi (yielded ops a.tmps) = true)
    (hs : Region.noSelect ops = true) (hf : Region.free md ops listed i = true) (hr : (Region.ready md ops listed).contains i = true) (hQ : ∀ c a w, Q (.panic c) (a.put oi.dst v) w → Q (.panic c) a w)
    (hy : ∀ w, S w → (execOp a.eval oi).run P w = .ok (.value v) w) (hw : S w)
    (h : wpAnyH P md ops Q S fuel (listed.setIfInBounds i true) (a.put oi.dst v) w) : wpAnyH P md ops Q S (fuel + 1) listed a w :=
  wpAnyH_take hi hs hf hr hQ (.inl ⟨hg, hy⟩) hw h
/-- A guarded one that is not wanted. -/
theorem hg_skip (i : Nat) {oi : Oper} (hi : ops[i]? = some oi) (hg : Region.wanted oi (yielded ops a.tmps) = false)
    (hs : Region.noSelect ops = true) (hf : Region.free md ops listed i = true) (hr : (Region.ready md ops listed).contains i = true) (hQ : ∀ c a w, Q (.panic c) (a.put oi.dst undef) w → Q (.panic c) a w)
    (hw : S w) (h : wpAnyH P md ops Q S fuel (listed.setIfInBounds i true) (a.put oi.dst undef) w) : wpAnyH P md ops Q S (fuel + 1) listed a w :=
  wpAnyH_take hi hs hf hr hQ (.inr ⟨hg, rfl⟩) hw h
/-- A guarded call that is wanted, the only one that may come up. -/
theorem hg_calls (i : Nat) {oi : Oper} (f : FuncId) (args : Array Value) (hi : ops[i]? = some oi) (hg : Region.wanted oi (yielded ops a.tmps) = true) (hr : Region.ready md ops listed = [i]) (hrun : (execOp a.eval oi).run P w = .ok (.enter f args) w)
    (h : Calls P f args w fun e w' => ∃ v, e = .returned v ∧ S w' ∧ wpAnyH P md ops Q S fuel (listed.setIfInBounds i true) (a.put oi.dst v) w') : wpAnyH P md ops Q S (fuel + 1) listed a w := by
  refine wpAnyH_all hr (by simp) fun j hj => ?_
  rw [List.mem_singleton] at hj
  subst hj
  unfold wpOp
  simp only [hi, hg, if_true]
  refine .inl ?_
  unfold Oper.wp
  rw [hrun]
  refine h.mono fun e w' hv => ?_
  obtain ⟨v, rfl, hk⟩ := hv
  exact hk
end
end Go.Proofs.YtchnaimpmegbkaaGreatDoor
