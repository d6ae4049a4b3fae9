/-
  Whole keys in regions that draw: ranges of cells.
-/
import Derived.Test.YtinpiodfpnbllaaRecKit
import Derived.Deep.RegionHeld3
namespace Go.Proofs.Ytinpiodfpnbllaa
open Go.RowKit
set_option linter.unusedVariables false

theorem bel_on {w0 w w' : World} (h1 : Below w0.heap.size w0 w) (h2 : Below w.heap.size w w') : Below w0.heap.size w0 w' := h1.trans (h2.mono h1.size)
theorem Blk.range {w : World} {g : Nat} {t : TypeId} {cs : List Value} (h : Blk w g t cs.toArray) : w.rangeAt g 0 cs := fun j v hv => by rw [Nat.zero_add, h.cell j]; simpa using hv
theorem Blk.there {w : World} {g : Nat} {t : TypeId} {cs : Array Value} (h : Blk w g t cs) {o n : Nat} (hn : o + n ≤ cs.size) : w.there g o n := fun j hj => by
  refine ⟨?_, h.frozen _⟩
  rw [h.cell, Array.getElem?_eq_getElem (by omega)]; rfl
theorem range_below {w w' : World} {g o : Nat} {cs : List Value} (h : w.rangeAt g o cs) (hb : Below w.heap.size w w') : w'.rangeAt g o cs := fun j v hv => by
  have h1 := h j v hv
  rw [hb.cell (World.block_lt_of_cell? w _ h1)]
  exact h1
theorem setCells_row {w : World} {g : Nat} {t : TypeId} {old : Array Value} (h : Blk w g t old) (l : List Value) (hs : old.size = l.length) (h1 : ∀ v ∈ l, v.oneCell' = true) : w.setCells g 0 l = w.setRow g l.toArray := by
  have a := run_storeCells_from (P := Try.prog) g t l 0 old w h (by omega) h1
  have b := run_storeCells_cells (P := Try.prog) g 0 l 0 w (fun j hj => by simpa using (h.there (o := 0) (n := l.length) (by omega) j hj).1) (fun j hj => by simpa using (h.there (o := 0) (n := l.length) (by omega) j hj).2) h1
  simp only [List.take_zero, List.nil_append, Nat.add_zero] at a b
  rw [b] at a
  injection a with _ a
theorem range_setRow {w : World} {g o g' : Nat} {cs : List Value} (h : w.rangeAt g o cs) (hne : g ≠ g') (cs' : Array Value) : (w.setRow g' cs').rangeAt g o cs := fun j v hv => by
  rw [← h j v hv]
  exact World.cell?_of_block (setRow_other w g' g cs' hne)
theorem cells_one (l : List UInt8) : ∀ v ∈ cellsB l, v.oneCell' = true := cellsB_one l

section
variable {P : Program} {md : Region.Mode} {ops : Array Oper} {Q : Exit → Act → World → Prop} {S : World → Prop} {fuel : Nat} {listed : Array Bool} {a : Act} {w : World}
/-- A load of a row, or of a part of one, is taken first. -/
theorem hd_load (i : Nat) {oi : Oper} (g o : Nat) (cs : List Value) (ty : TypeId) (x : Operand) {d : TypeDesc} (hi : ops[i]? = some oi) (ho : oi.op = .load ty x) (hg : oi.guard = none)
    (hs : Region.noSelect ops = true) (hf : Region.free md ops listed i = true) (hr : (Region.ready md ops listed).contains i = true) (hQ : ∀ c a w, Q (.panic c) (a.put oi.dst (.agg cs.toArray)) w → Q (.panic c) a w)
    (hx : a.eval x = .pointer (some ⟨g, o, none⟩)) (hS : ∀ w, S w → w.rangeAt g o cs) (hu : P.underlying ty = some d) (hd : d.isRow = true) (hn : (P.info? ty).map (·.size) = some cs.length) (hw : S w)
    (h : wpAnyH P md ops Q S fuel (listed.setIfInBounds i true) (a.put oi.dst (.agg cs.toArray)) w) : wpAnyH P md ops Q S (fuel + 1) listed a w :=
  wpAnyH_take hi hs hf hr hQ (yieldsIf_load_mid (by simp [Region.wanted, hg]) ty x ho g o hx cs d hS hu hd hn) hw h
/-- What yields a value in every world in question is taken first. -/
theorem hd_take (i : Nat) {oi : Oper} (v : Value) (hi : ops[i]? = some oi) (hg : oi.guard = none)
    (hs : Region.noSelect ops = true) (hf : Region.free md ops listed i = true) (hr : (Region.ready md ops listed).contains i = true) (hQ : ∀ c a w, Q (.panic c) (a.put oi.dst v) w → Q (.panic c) a w)
    (hy : ∀ w, S w → (execOp a.eval oi).run P w = .ok (.value v) w) (hw : S w)
    (h : wpAnyH P md ops Q S fuel (listed.setIfInBounds i true) (a.put oi.dst v) w) : wpAnyH P md ops Q S (fuel + 1) listed a w :=
  wpAnyH_take hi hs hf hr hQ (.inl ⟨by simp [Region.wanted, hg], hy⟩) hw h
/-- The only one that may come up. -/
theorem hd_one (i : Nat) {oi : Oper} (hi : ops[i]? = some oi) (hg : oi.guard = none) (hr : Region.ready md ops listed = [i])
    (h : oi.wp P a w (fun a' w' => S w' ∧ wpAnyH P md ops Q S fuel (listed.setIfInBounds i true) a' w') Q) : wpAnyH P md ops Q S (fuel + 1) listed a w := by
  refine wpAnyH_all hr (by simp) fun j hj => ?_
  rw [List.mem_singleton] at hj
  subst hj
  unfold wpOp
  have hw : Region.wanted oi (yielded ops a.tmps) = true := by simp [Region.wanted, hg]
  simp only [hi, hw, if_true]
  exact .inl h
/-- A store of a whole row, the only one that may come up. -/
theorem hd_store (i : Nat) {oi : Oper} (g : Nat) (cells : Array Value) (ty : TypeId) (x y : Operand) (hi : ops[i]? = some oi) (ho : oi.op = .store ty x y) (hg : oi.guard = none) (hr : Region.ready md ops listed = [i])
    (hx : a.eval x = .pointer (some ⟨g, 0, none⟩)) (hy : a.eval y = .agg cells) {t : TypeId} {old : Array Value} (hb : Blk w g t old) (hn : (P.info? ty).map (·.size) = some cells.size) (hold : old.size = cells.size) (h1 : cells.all (·.oneCell') = true)
    (hS : S (w.setRow g cells)) (h : wpAnyH P md ops Q S fuel (listed.setIfInBounds i true) (a.put oi.dst undef) (w.setRow g cells)) : wpAnyH P md ops Q S (fuel + 1) listed a w :=
  hd_one i hi hg hr (wp_store_row ty x y ho g cells hx hy t old hb hn hold h1 ⟨hS, h⟩)
/-- A row is made, the only one that may come up. -/
theorem hd_calls (i : Nat) {oi : Oper} (f : FuncId) (args : Array Value) (hi : ops[i]? = some oi) (hg : oi.guard = none) (hr : Region.ready md ops listed = [i]) (hrun : (execOp a.eval oi).run P w = .ok (.enter f args) w)
    (h : Calls P f args w fun e w' => ∃ v, e = .returned v ∧ S w' ∧ wpAnyH P md ops Q S fuel (listed.setIfInBounds i true) (a.put oi.dst v) w') : wpAnyH P md ops Q S (fuel + 1) listed a w :=
  hd_one i hi hg hr (by
    unfold Oper.wp
    rw [hrun]
    refine h.mono fun e w' hv => ?_
    obtain ⟨v, rfl, hk⟩ := hv
    exact hk)
theorem hd_two (i j : Nat) (hr : Region.ready md ops listed = [i, j]) (h1 : wpOp P ops Q i (fun a' w' => S w' ∧ wpAnyH P md ops Q S fuel (listed.setIfInBounds i true) a' w') a w)
    (h2 : wpOp P ops Q j (fun a' w' => S w' ∧ wpAnyH P md ops Q S fuel (listed.setIfInBounds j true) a' w') a w) : wpAnyH P md ops Q S (fuel + 1) listed a w := by
  refine wpAnyH_all hr (by simp) fun k hk => ?_
  rcases List.mem_cons.1 hk with rfl | hk
  · exact h1
  · rw [List.mem_singleton] at hk; subst hk; exact h2
theorem hd_sole (i : Nat) (hr : Region.ready md ops listed = [i]) (h1 : wpOp P ops Q i (fun a' w' => S w' ∧ wpAnyH P md ops Q S fuel (listed.setIfInBounds i true) a' w') a w) : wpAnyH P md ops Q S (fuel + 1) listed a w := by
  refine wpAnyH_all hr (by simp) fun k hk => ?_
  rw [List.mem_singleton] at hk; subst hk; exact h1
theorem op_call {i : Nat} {oi : Oper} {K : Act → World → Prop} (f : FuncId) (args : Array Value) (hi : ops[i]? = some oi) (hg : oi.guard = none) (hrun : (execOp a.eval oi).run P w = .ok (.enter f args) w)
    (h : Calls P f args w fun e w' => ∃ v, e = .returned v ∧ K (a.put oi.dst v) w') : wpOp P ops Q i K a w := by
  have hw : Region.wanted oi (yielded ops a.tmps) = true := by simp [Region.wanted, hg]
  unfold wpOp
  simp only [hi, hw, if_true]
  refine .inl ?_
  unfold Oper.wp
  rw [hrun]
  refine h.mono fun e w' hv => ?_
  obtain ⟨v, rfl, hk⟩ := hv
  exact hk
theorem op_run {i : Nat} {oi : Oper} {K : Act → World → Prop} (v : Value) (w' : World) (hi : ops[i]? = some oi) (hg : oi.guard = none) (hrun : (execOp a.eval oi).run P w = .ok (.value v) w')
    (h : K (a.put oi.dst v) w') : wpOp P ops Q i K a w := by
  have hw : Region.wanted oi (yielded ops a.tmps) = true := by simp [Region.wanted, hg]
  unfold wpOp
  simp only [hi, hw, if_true]
  refine .inl ?_
  unfold Oper.wp
  rw [hrun]
  exact h
end
end Go.Proofs.Ytinpiodfpnbllaa
