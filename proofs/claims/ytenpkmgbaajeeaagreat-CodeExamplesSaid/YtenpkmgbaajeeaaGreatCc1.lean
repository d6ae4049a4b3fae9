/-
  Lemmas and contracts, joined.
-/
import Derived.Maps.RangeWalk
import Derived.Below
import Derived.Carry
import Derived.Test.YtenpkmgbaajeeaaGreatCt2
import Derived.Test.YtenpkmgbaajeeaaGreatCn4
import Derived.Test.YtenpkmgbaajeeaaGreatCt1
import Derived.Test.YtenpkmgbaajeeaaGreatCp1
import Derived.Test.YtenpkmgbaajeeaaGreatCw1
import Derived.Test.YtenpkmgbaajeeaaGreatCs1
set_option linter.unusedSimpArgs false
set_option linter.unusedVariables false
set_option linter.unnecessarySimpa false
/- Maps keyed by int, as functions: what stands at each key. -/
namespace Go.Proofs.YtenpkmgbaajeeaaGreat
open Go.RowKit Go.Maps
set_option linter.unusedVariables false

/-- Each element reads as itself. -/
def heldE : Value → Option (DataW Value × List MemPlace) := fun v => some (.held v, [])
def agreesD (D : DataW Value) (f : Int → Option Value) : Prop :=
  ∀ s, (Lit.int .i64 s).wf = true → (Maps.has D (.int .i64 s) = (f s).isSome ∧ ∀ v, f s = some v → ∀ z, D.atKey (.int .i64 s) z = .held v)
/-- Block b is a map of at most n entries, and f says what it holds. -/
def MF (P : Program) (k : TypeId) (w : World) (b n : Nat) (f : Int → Option Value) : Prop := ∃ D, w.ownsMap P k heldE b n D ∧ agreesD D f
/-- .. that is ranged over by block r: the keys still to come. -/
def MFR (P : Program) (k : TypeId) (w : World) (b r n : Nat) (f : Int → Option Value) (left : Int → Bool) (cnt : Nat) : Prop :=
  ∃ D l, w.ranges P k heldE b r n D l cnt ∧ agreesD D f ∧ ∀ s, (Lit.int .i64 s).wf = true → l (.int .i64 s) = left s
def putF (f : Int → Option Value) (s : Int) (v : Value) : Int → Option Value := fun t => if t = s then some v else f t
theorem below_grownM {w w' : World} (hb : Below w.heap.size w w') (row : Option Nat) : w.grownBy w' row := ⟨hb.os, hb.tape, hb.output, hb.size, fun k hk _ => hb.block k hk⟩
theorem key_wf {s : Int} (h : (Lit.int .i64 s).wf = true) : WideAt.IsKeyLit (.int .i64 s) := trivial
theorem sameKey_int (s t : Int) : (Lit.int .i64 t).sameKey (.int .i64 s) = (t == s) := by
  by_cases h : t = s
  · subst h; rw [WideAt.sameKey_self (a := .int .i64 t) trivial]; simp
  · rw [sameKey_ne (fun e => h (by injection e))]; simp [h]
theorem len_keys : ∀ (m : Nat) (es : List (Lit × DataW Value)), es.Pairwise (fun p q => p.1 ≠ q.1) → (∀ p ∈ es, ∃ x : Nat, x < m ∧ p.1 = .int .i64 (x : Int)) → es.length ≤ m
  | 0, es, _, h => by
    cases es with
    | nil => exact Nat.le_refl _
    | cons p r => obtain ⟨x, hx, _⟩ := h p (by simp); omega
  | m + 1, es, hp, h => by
    have h1 := length_strike (k := .int .i64 (m : Int)) es hp
    have h2 := len_keys m (es.filter fun p => !p.1.sameKey (.int .i64 (m : Int))) (hp.filter _) fun p hpm => by
      rw [List.mem_filter] at hpm
      obtain ⟨x, hx, e⟩ := h p hpm.1
      refine ⟨x, ?_, e⟩
      have h3 := hpm.2
      rw [e, sameKey_int] at h3
      simp at h3
      omega
    split at h1 <;> omega
section
variable {P : Program} {k : TypeId} {w w' : World} {b r n cnt : Nat} {f : Int → Option Value} {left : Int → Bool}
theorem MF.made (w : World) (P : Program) (k : TypeId) : MF P k (w.alloc (.map #[] 0)) w.heap.size 0 (fun _ => none) :=
  ⟨_, World.ownsMap_made w P k heldE, fun s _ => ⟨rfl, fun v h => by cases h⟩⟩
theorem MF.lt (h : MF P k w b n f) : b < w.heap.size := by obtain ⟨D, h1, _⟩ := h; exact h1.lt
theorem MF.mono (h : MF P k w b n f) {n' : Nat} (hn : n ≤ n') : MF P k w b n' f := by obtain ⟨D, h1, h2⟩ := h; exact ⟨D, h1.mono hn, h2⟩
theorem MF.kept {row : Option Nat} (h : MF P k w b n f) (hg : w.grownBy w' row) (hne : some b ≠ row) : MF P k w' b n f := by obtain ⟨D, h1, h2⟩ := h; exact ⟨D, h1.kept hg hne, h2⟩
theorem MF.below (h : MF P k w b n f) (hb : Below w.heap.size w w') : MF P k w' b n f := h.kept (row := none) (below_grownM hb none) (by simp)
theorem MF.congr (h : MF P k w b n f) {g : Int → Option Value} (hg : ∀ s, (Lit.int .i64 s).wf = true → f s = g s) : MF P k w b n g := by
  obtain ⟨D, h1, h2⟩ := h
  exact ⟨D, h1, fun s hs => by rw [← hg s hs]; exact h2 s hs⟩
theorem MFR.kept {row : Option Nat} (h : MFR P k w b r n f left cnt) (hg : w.grownBy w' row) (hb : some b ≠ row) (hr : some r ≠ row) : MFR P k w' b r n f left cnt := by
  obtain ⟨D, l, h1, h2⟩ := h
  exact ⟨D, l, h1.kept hg hb hr, h2⟩
theorem MFR.below (h : MFR P k w b r n f left cnt) (hb : Below w.heap.size w w') : MFR P k w' b r n f left cnt := h.kept (row := none) (below_grownM hb none) (by simp) (by simp)
theorem MFR.mf (h : MFR P k w b r n f left cnt) : MF P k w b n f := by obtain ⟨D, l, h1, h2, _⟩ := h; exact ⟨D, h1.owns, h2⟩
theorem MFR.left_eq (h : MFR P k w b r n f left cnt) : w.rangeLeft b r = cnt := by obtain ⟨D, l, h1, _⟩ := h; exact h1.left_eq
theorem MFR.lt (h : MFR P k w b r n f left cnt) : r < w.heap.size := by obtain ⟨D, l, h1, _⟩ := h; exact h1.lt
theorem MFR.ne (h : MFR P k w b r n f left cnt) : r ≠ b := by obtain ⟨D, l, h1, _⟩ := h; exact h1.ne

/-- A map has no more entries than keys that may be there. -/
theorem MF.tight {m : Nat} (K : Keyed P k) (hk : P.underlying k = some (.int .i64)) (h : MF P k w b n f) (hf : ∀ s, (Lit.int .i64 s).wf = true → f s ≠ none → 0 ≤ s ∧ s < (m : Int)) : MF P k w b m f := by
  obtain ⟨D, h1, h2⟩ := h
  obtain ⟨es0, hD0, hp, _⟩ := h1.entries K
  obtain ⟨es, clock, hb, F, hs, hD⟩ := h1
  have hl : ((es.toList.map (WideElems.rg P k heldE)).foldr DataW.insert []).length = es.size := length_read es
  have e0 : es0 = (es.toList.map (WideElems.rg P k heldE)).foldr DataW.insert [] := by rw [hD0] at hD; injection hD
  refine ⟨D, ⟨es, clock, hb, F, ?_, hD⟩, h2⟩
  rw [← hl, ← e0]
  refine len_keys m es0 hp fun p hpm => ?_
  rw [e0, mem_sorted] at hpm
  obtain ⟨x, hx, rfl⟩ := List.mem_map.1 hpm
  obtain ⟨y, hy⟩ := F.reads x hx
  obtain ⟨z, _, ez, hz⟩ := Maps.keyOf_int_inv hk (WideElems.rd_key hy)
  rw [WideElems.rg_of hy]
  have hh : Maps.has D (.int .i64 z) = true := by
    rw [hD]
    exact List.any_eq_true.2 ⟨_, mem_sorted.2 (List.mem_map.2 ⟨x, hx, rfl⟩), by rw [WideElems.rg_of hy, ez, sameKey_int]; simp⟩
  have ha := (h2 z hz).1
  rw [hh] at ha
  have hne : f z ≠ none := fun e => by rw [e] at ha; cases ha
  obtain ⟨g1, g2⟩ := hf z hz hne
  exact ⟨z.toNat, by omega, by rw [ez]; congr 1; omega⟩
theorem MF.lookup {t e : TypeId} (h : MF P k w b n f) (K : Keyed P k) (hk : P.underlying k = some (.int .i64)) (ht : P.underlying t = some (.map k e)) {z : Value} (hz : (zeroValue e).run P w = .ok z w)
    {s : Int} (hs : (Lit.int .i64 s).wf = true) : (Instr.lookup t (.map (some b)) (.int .i64 s) false).run P w = .ok ((f s).getD z) w := by
  obtain ⟨D, h1, h2⟩ := h
  obtain ⟨v, ps, hrun, hv⟩ := h1.lookup K ht hz (zd := .held z) (zp := []) rfl (keyOf_int_mk hk hs)
  have hv' : DataW.held v = D.atKey (.int .i64 s) (.held z) := by simp [heldE] at hv; exact hv.1
  obtain ⟨ha, hb⟩ := h2 s hs
  rw [hrun]
  cases hf : f s with
  | none =>
    rw [hf] at ha
    rw [atKey_of_not_has ha] at hv'
    injection hv' with e1
    rw [e1]; rfl
  | some u =>
    rw [hb u hf] at hv'
    injection hv' with e1
    rw [e1]; rfl
theorem MF.update {t e : TypeId} (h : MF P k w b n f) (K : Keyed P k) (hk : P.underlying k = some (.int .i64)) (ht : P.underlying t = some (.map k e)) (hn : n < maxLen) {s : Int} (hs : (Lit.int .i64 s).wf = true) (v : Value) :
    ∃ w', (Instr.mapUpdate t (.map (some b)) (.int .i64 s) v).run P w = .ok () w' ∧ MF P k w' b (n + 1) (putF f s v) ∧ w.grownBy w' (some b) := by
  obtain ⟨D, h1, h2⟩ := h
  obtain ⟨w', hrun, r1, r2⟩ := h1.update K ht hn (keyOf_int_mk hk hs) (val := v) (d := .held v) (ps := []) rfl
  refine ⟨w', hrun, ⟨_, r1, fun t' ht' => ?_⟩, r2⟩
  by_cases e1 : t' = s
  · subst e1
    refine ⟨by rw [has_put_same h1.isMap (key_wf hs)]; simp [putF], fun u hu z => ?_⟩
    have : v = u := by simpa [putF] using hu
    subst this
    exact atKey_put_same h1.isMap (key_wf hs) _ _
  · have hne : (Lit.int .i64 t') ≠ .int .i64 s := fun e => e1 (by injection e)
    have hp : putF f s v t' = f t' := by simp [putF, e1]
    rw [hp]
    refine ⟨by rw [has_put_other hne]; exact (h2 t' ht').1, fun u hu z => ?_⟩
    rw [atKey_put_other hne]
    exact (h2 t' ht').2 u hu z
end
section
variable {P : Program} (w : World) {ops : Array Oper} {rest : List Oper} {o : Oper} {a : Act} {Q : Exit → Act → World → Prop}
theorem wpList_lookup_mf (hg : o.guard = none) (m x : Operand) (t : TypeId) (hop : o.op = Op.lookup t m x false) (k e : TypeId) (K : Keyed P k) (hk : P.underlying k = some (.int .i64)) (ht : P.underlying t = some (.map k e)) (z : Value) (hz : (zeroValue e).run P w = .ok z w)
    (b n : Nat) (f : Int → Option Value) (hm : a.eval m = .map (some b)) (h : MF P k w b n f) (s : Int) (hx : a.eval x = .int .i64 s) (hs : (Lit.int .i64 s).wf = true)
    (hK : wpList P ops Q rest (a.put o.dst ((f s).getD z)) w) : wpList P ops Q (o :: rest) a w := by
  refine wpList_plain hg fun K' hK' => ?_
  have hrun := h.lookup K hk ht hz hs
  unfold Oper.wp
  simp [execOp, hop, hm, hx, hrun, Result.andThen]
  exact hK' _ _ hK
theorem wpList_update_mf (hg : o.guard = none) (m x v : Operand) (t : TypeId) (hop : o.op = Op.mapUpdate t m x v) (k e : TypeId) (K : Keyed P k) (hk : P.underlying k = some (.int .i64)) (ht : P.underlying t = some (.map k e))
    (b n : Nat) (f : Int → Option Value) (hm : a.eval m = .map (some b)) (h : MF P k w b n f) (hn : n < maxLen) (s : Int) (val : Value) (hx : a.eval x = .int .i64 s) (hv : a.eval v = val) (hs : (Lit.int .i64 s).wf = true)
    (hK : ∀ w', MF P k w' b (n + 1) (putF f s val) → w.grownBy w' (some b) → wpList P ops Q rest (a.put o.dst undef) w') : wpList P ops Q (o :: rest) a w := by
  refine wpList_plain hg fun K' hK' => ?_
  obtain ⟨w', hrun, r1, r2⟩ := h.update K hk ht hn hs val
  unfold Oper.wp
  simp [execOp, hop, hm, hx, hv, hrun, Result.andThen]
  exact hK' _ _ (hK w' r1 r2)
theorem wpList_insert_mf (hg : o.guard = none) (m x v : Operand) (t : TypeId) (hop : o.op = Op.insert t m x v) (k e : TypeId) (K : Keyed P k) (hk : P.underlying k = some (.int .i64)) (ht : P.underlying t = some (.map k e))
    (b n : Nat) (f : Int → Option Value) (hm : a.eval m = .map (some b)) (h : MF P k w b n f) (hn : n < maxLen) (s : Int) (val : Value) (hx : a.eval x = .int .i64 s) (hv : a.eval v = val) (hs : (Lit.int .i64 s).wf = true)
    (hK : ∀ w', MF P k w' b (n + 1) (putF f s val) → w.grownBy w' (some b) → wpList P ops Q rest (a.put o.dst undef) w') : wpList P ops Q (o :: rest) a w := by
  refine wpList_plain hg fun K' hK' => ?_
  obtain ⟨w', hrun, r1, r2⟩ := h.update K hk ht hn hs val
  unfold Oper.wp
  simp [execOp, hop, hm, hx, hv, hrun, Result.andThen]
  exact hK' _ _ (hK w' r1 r2)
theorem wpList_range_mf (hg : o.guard = none) (m : Operand) (t : TypeId) (hop : o.op = Op.range t m) (k e : TypeId) (K : Keyed P k) (ht : P.underlying t = some (.map k e)) (b n : Nat) (f : Int → Option Value)
    (hm : a.eval m = .map (some b)) (h : MF P k w b n f)
    (hK : ∀ w' cnt, MFR P k w' b w.heap.size n f (fun s => (f s).isSome) cnt → w.grownBy w' none → w'.heap.size = w.heap.size + 1 → wpList P ops Q rest (a.put o.dst (.pointer (some ⟨w.heap.size, 0, none⟩))) w') :
    wpList P ops Q (o :: rest) a w := by
  obtain ⟨D, h1, h2⟩ := h
  exact wpList_range_own w hg m t hop k e K ht heldE b n D hm h1 fun w' r1 r2 r3 => hK w' _ ⟨D, _, r1, h2, fun s hs => (h2 s hs).1⟩ r2 r3
theorem wpList_next_mf (hg : o.guard = none) (it : Operand) (hop : o.op = Op.next it false) (k : TypeId) (K : Keyed P k) (hk : P.underlying k = some (.int .i64)) (b r n : Nat) (f : Int → Option Value) (left : Int → Bool) (cnt : Nat)
    (hit : a.eval it = .pointer (some ⟨r, 0, none⟩)) (h : MFR P k w b r n f left cnt)
    (hDone : (∀ s, (Lit.int .i64 s).wf = true → left s = false) → wpList P ops Q rest (a.put o.dst (.tuple #[.bool false])) w)
    (hMore : ∀ (s : Int) (v : Value) (w' : World) (cnt' : Nat), (Lit.int .i64 s).wf = true → left s = true → f s = some v → MFR P k w' b r n f (fun t => left t && !(t == s)) cnt' → cnt' < cnt →
      w.grownBy w' (some r) → w'.heap.size = w.heap.size → (Instr.entry (.pointer (some ⟨r, 0, none⟩))).run P w' = .ok (.tuple #[.int .i64 s, v]) w' → wpList P ops Q rest (a.put o.dst (.tuple #[.bool true, .int .i64 s, v])) w') :
    wpList P ops Q (o :: rest) a w := by
  obtain ⟨D, l, h1, h2, h3⟩ := h
  refine wpList_next_ranges w hg it hop k K heldE (α := { s : Int // (Lit.int .i64 s).wf = true }) (β := Value) (fun s => .int .i64 s.1) id
    (fun key kl hkey => by obtain ⟨x, rfl, _, hx⟩ := Maps.keyOf_int_inv hk hkey; exact ⟨⟨x, hx⟩, rfl⟩) (fun v y hv => ⟨v, rfl⟩) b r n D l cnt hit h1 (fun _ hl => hDone fun s hs => by rw [← h3 s hs]; exact hl _) ?_
  rintro ⟨s, hs⟩ v kl y w' cnt' hkey hlk hv hat hrg hlt hgr hsz hen
  dsimp only [id] at *
  have ekl : kl = .int .i64 s := by rw [keyOf_int_mk hk hs] at hkey; injection hkey with e; exact e.symm
  subst ekl
  have ey : y = (.held v, []) := by simp [heldE] at hv; exact hv.symm
  subst ey
  have hfs : f s = some v := by
    obtain ⟨ha, hb⟩ := h2 s hs
    rw [has_true_of_atKey hat] at ha
    cases hf : f s with
    | none => rw [hf] at ha; cases ha
    | some u =>
      have e1 := hb u hf .nil
      rw [hat .nil] at e1
      injection e1 with e1
      rw [e1]
  refine hMore s v w' cnt' hs (by rw [← h3 s hs]; exact hlk) hfs ⟨D, _, hrg, h2, fun t ht => ?_⟩ hlt hgr hsz hen
  show (l (.int .i64 t) && !(Lit.int .i64 t).sameKey (.int .i64 s)) = _
  rw [h3 t ht, sameKey_int]
end
end Go.Proofs.YtenpkmgbaajeeaaGreat

/- Whether a code of steps is complete: the program's. -/
namespace Go.Proofs.YtenpkmgbaajeeaaGreat
open Go.RowKit Go.Maps
set_option linter.unusedVariables false
set_option linter.unusedSimpArgs false

theorem intKey : Keyed Tryz.prog 3 := int_keyed Tryz.underlying3
theorem zeroBool (w : World) : (zeroValue 4).run Tryz.prog w = .ok (.bool false) w := by kernel_rfl
/-- The thresholds known so far, and zeros. -/
def mostC (t : Nat → Int) (k : Nat) : List Value := (List.range 129).map fun j => .int .i64 (if j < k then t j else 0)
theorem mostC_len (t : Nat → Int) (k : Nat) : (mostC t k).length = 129 := by simp [mostC]
theorem mostC_set (t : Nat → Int) {k : Nat} (hk : k < 129) : (mostC t k).set k (.int .i64 (t k)) = mostC t (k + 1) := by
  refine List.ext_getElem (by simp [mostC]) fun i h1 h2 => ?_
  simp only [mostC, List.getElem_set, List.getElem_map, List.getElem_range]
  by_cases e : k = i
  · subst e; simp
  · rw [if_neg e]
    have : (i < k) ↔ (i < k + 1) := by omega
    simp [this]
theorem mostC_get {t : Nat → Int} {k i : Nat} (hi : i < k) (hk : k ≤ 129) : (mostC t k).toArray[i]? = some (.int .i64 (t i)) := by
  simp [mostC, show i < 129 by omega, hi]
theorem mostC_at {t : Nat → Int} {k : Nat} (hk : k < 129) : (mostC t k).toArray[k]? = some (.int .i64 0) := by
  simp [mostC, hk]
theorem zero129 : Tryz.zeroCells160 = (List.replicate 129 (Value.int .i64 0)).toArray := by kernel_rfl
theorem mostC_zero (t : Nat → Int) : Tryz.zeroCells160 = (mostC t 0).toArray := by
  have e : mostC t 0 = List.replicate 129 (.int .i64 0) := by
    refine List.ext_getElem (by simp [mostC]) fun i h1 h2 => ?_
    simp only [mostC, List.getElem_map, List.getElem_range, List.getElem_replicate]
    rfl
  rw [e, zero129]
theorem mostC_put (t : Nat → Int) {k : Nat} (hk : k < 129) : (mostC t k).toArray.setIfInBounds k (.int .i64 (t k)) = (mostC t (k + 1)).toArray := by
  rw [List.setIfInBounds_toArray, mostC_set t hk]
/-- A set of numbers up to d, as a map. -/
def setF (d : Nat) (p : Nat → Bool) : Int → Option Value := fun s => if 0 ≤ s ∧ s ≤ (d : Int) ∧ p s.toNat = true then some (.bool true) else none
theorem setF_nat {d : Nat} {p : Nat → Bool} (x : Nat) : setF d p (x : Int) = if x ≤ d ∧ p x = true then some (.bool true) else none := by
  unfold setF
  rw [Int.toNat_natCast]
  by_cases h : x ≤ d ∧ p x = true
  · rw [if_pos ⟨by omega, by omega, h.2⟩, if_pos h]
  · rw [if_neg (fun h' => h ⟨by omega, h'.2.2⟩), if_neg h]
theorem setF_get (d : Nat) (p : Nat → Bool) : (setF d p (d : Int)).getD (.bool false) = .bool (p d) := by
  rw [setF_nat]
  cases h : p d
  · rw [if_neg (by simp)]; rfl
  · rw [if_pos ⟨Nat.le_refl _, rfl⟩]; rfl
theorem setF_neg {d : Nat} {p : Nat → Bool} {s : Int} (h : s < 0) : setF d p s = none := by unfold setF; rw [if_neg (by omega)]
theorem setF_some {d : Nat} {p : Nat → Bool} {s : Int} {v : Value} (h : setF d p s = some v) : ∃ x : Nat, s = (x : Int) ∧ x ≤ d ∧ p x = true ∧ v = .bool true := by
  unfold setF at h
  split at h
  · rename_i h1
    injection h with h
    exact ⟨s.toNat, by omega, by omega, h1.2.2, h.symm⟩
  · cases h
theorem setF_congr {d : Nat} {p q : Nat → Bool} (h : ∀ x, x ≤ d → p x = q x) (s : Int) : setF d p s = setF d q s := by
  rcases Int.lt_or_le s 0 with hs | hs
  · rw [setF_neg hs, setF_neg hs]
  · obtain ⟨x, rfl⟩ := Int.eq_ofNat_of_zero_le hs
    rw [setF_nat, setF_nat]
    by_cases hx : x ≤ d
    · rw [h x hx]
    · rw [if_neg (fun h' => hx h'.1), if_neg (fun h' => hx h'.1)]
theorem setF_put {d : Nat} {p : Nat → Bool} {x : Nat} (hx : x ≤ d) (s : Int) : putF (setF d p) (x : Int) (.bool true) s = setF d (fun z => p z || decide (z = x)) s := by
  unfold putF
  rcases Int.lt_or_le s 0 with hs | hs
  · rw [if_neg (by omega), setF_neg hs, setF_neg hs]
  · obtain ⟨z, rfl⟩ := Int.eq_ofNat_of_zero_le hs
    rw [setF_nat, setF_nat]
    by_cases e : z = x
    · subst e; rw [if_pos rfl, if_pos ⟨hx, by simp⟩]
    · rw [if_neg (by omega)]
      simp [e]
theorem setF_none {d : Nat} (s : Int) : (fun _ => none : Int → Option Value) s = setF d (fun _ => false) s := by
  unfold setF; simp
theorem setF_in {d : Nat} {p : Nat → Bool} {s : Int} (h : setF d p s ≠ none) : 0 ≤ s ∧ s < ((d + 1 : Nat) : Int) := by
  cases hf : setF d p s with
  | none => exact absurd hf h
  | some v =>
    obtain ⟨x, rfl, hx, _⟩ := setF_some hf
    omega
theorem start_set (d : Nat) (t : Nat → Int) (z : Int) : putF (fun _ => none) 0 (.bool true) z = setF d (mayS d t 0) z := by
  have e : putF (fun _ => none) 0 (.bool true) z = putF (setF d (fun _ => false)) ((0 : Nat) : Int) (.bool true) z := by
    unfold putF
    by_cases h : z = 0
    · subst h; simp
    · rw [if_neg h, if_neg (by simpa using h)]; exact setF_none z
  rw [e, setF_put (Nat.zero_le _)]
  exact setF_congr (fun x _ => by simp [mayS]) z
theorem MF.tightSet {d : Nat} {w : World} {b n : Nat} {p : Nat → Bool} (h : MF Tryz.prog 3 w b n (setF d p)) : MF Tryz.prog 3 w b (d + 1) (setF d p) := h.tight intKey Tryz.underlying3 fun s _ hs => setF_in hs
/-- What the next block may weigh, some weights of this one still to come. -/
def nextP (d : Nat) (t : Nat → Int) (j : Nat) (left : Int → Bool) (x : Nat) : Bool := decide (∃ v : Nat, v ≤ d ∧ (mayS d t j v = true ∧ left (v : Int) = false) ∧ t (v + x) < (v : Int))
theorem nextP_start {d : Nat} {t : Nat → Int} {j x : Nat} : nextP d t j (fun s => (setF d (mayS d t j) s).isSome) x = false := by
  unfold nextP
  rw [decide_eq_false_iff_not]
  rintro ⟨v, hv, ⟨h1, h2⟩, _⟩
  dsimp only at h2
  rw [setF_nat, if_pos ⟨hv, h1⟩] at h2
  cases h2
theorem nextP_end {d : Nat} {t : Nat → Int} {j : Nat} {left : Int → Bool} (h : ∀ v : Nat, v ≤ d → left (v : Int) = false) (x : Nat) : nextP d t j left x = mayS d t (j + 1) x := by
  unfold nextP
  rw [mayS, decide_eq_decide]
  constructor
  · rintro ⟨v, hv, ⟨h1, _⟩, h3⟩; exact ⟨v, hv, h1, h3⟩
  · rintro ⟨v, hv, h1, h3⟩; exact ⟨v, hv, ⟨h1, h v hv⟩, h3⟩
theorem nextP_step {d : Nat} {t : Nat → Int} {j : Nat} {left : Int → Bool} {v : Nat} (hv : v ≤ d) (hm : mayS d t j v = true) {x : Nat} (hx : x ≤ d) :
    (nextP d t j left x || (decide (x < d + 1) && decide (t (v + x) < (v : Int)))) = nextP d t j (fun z => left z && !(z == (v : Int))) x := by
  rw [Bool.eq_iff_iff]
  unfold nextP
  rw [Bool.or_eq_true, Bool.and_eq_true, decide_eq_true_eq, decide_eq_true_eq, decide_eq_true_eq, decide_eq_true_eq]
  constructor
  · rintro (⟨u, h1, ⟨h2, h3⟩, h4⟩ | ⟨_, h2⟩)
    · exact ⟨u, h1, ⟨h2, by dsimp only; rw [h3]; rfl⟩, h4⟩
    · exact ⟨v, hv, ⟨hm, by simp⟩, h2⟩
  · rintro ⟨u, h1, ⟨h2, h3⟩, h4⟩
    by_cases e : u = v
    · subst e; exact .inr ⟨by omega, h4⟩
    · refine .inl ⟨u, h1, ⟨h2, ?_⟩, h4⟩
      have : ((u : Int) == (v : Int)) = false := by rw [beq_eq_false_iff_ne]; omega
      dsimp only at h3
      rw [this] at h3
      simpa using h3
theorem wf_small {n : Nat} (h : n ≤ 1000) : (Lit.int .i64 (n : Int)).wf = true := WalkArith.wf_i64 (by omega)
/-- A code is complete. -/
def StV.cmp (s : StV) : Bool := !mayS s.b.toNat s.th (s.u.toNat - 2) s.b.toNat
def cmpSt (s : StV) : Bool × Int := if s.ok = true then (s.cmp, 0) else (false, 70)

set_option maxHeartbeats 8000000 in
set_option maxRecDepth 100000 in
theorem complete_good (s : StV) (w : World) (h : StOK w s) (hok : s.ok = true) :
    Calls Tryz.prog 61 #[.agg s.cs.toArray] w fun e w' => e = .returned (.tuple #[.bool s.cmp, .int .i64 0]) ∧ Below w.heap.size w w' := by
  obtain ⟨⟨q1, q2, q3, q4⟩, hl⟩ := StV.parts hok
  obtain ⟨d, hd⟩ : ∃ d : Nat, s.b = (d : Int) := ⟨s.b.toNat, by omega⟩
  obtain ⟨u, hu⟩ : ∃ u : Nat, s.u = ((u + 2 : Nat) : Int) := ⟨s.u.toNat - 2, by omega⟩
  have hcmp : s.cmp = !mayS d s.th u d := by unfold StV.cmp; rw [hd, hu, Int.toNat_natCast, Int.toNat_natCast, Nat.add_sub_cancel]
  rw [hcmp]
  have HCK : Hid (∀ W, Below w.heap.size w W → Calls Tryz.prog 21 #[.agg s.cs.toArray] W fun e w' => e = .returned (.int .i64 0) ∧ Below W.heap.size W w') := fun W hW => by
    have := CheckSteps_any s W (h.below hW)
    rwa [hok, show ckSt true = 0 from rfl] at this
  have HTO : Hid (∀ K : Nat, (K : Int) ≤ 2 * (d : Int) → ∀ W, Below w.heap.size w W → Calls Tryz.prog 100 #[.agg s.cs.toArray, .int .i64 (K : Int)] W fun e w' => e = .returned (.int .i64 (s.th K)) ∧ Below W.heap.size W w') := fun K hk W hW => threshold_any s K W (h.below hW) hok (by omega)
  have hks := h.k16
  obtain ⟨W0, hW0⟩ : ∃ W : World, W = w.alloc (.cells s.cs.toArray 29) := ⟨_, rfl⟩
  have b0 : Hid (Below w.heap.size w W0) := by unfold Hid; rw [hW0]; exact alloc_below _ _
  have x0 : Hid (Blk W0 w.heap.size 29 s.cs.toArray) := by unfold Hid; rw [hW0]; exact Blk.new w _ _
  have HW0 := Lib.hid hW0
  have HIN := Lib.hid (StV.info (s := s) hks)
  have HCL : Hid (∀ W, Below W0.heap.size W0 W → W.cell? ⟨w.heap.size, 0, none⟩ = some (.int .i64 ((u + 2 : Nat) : Int)) ∧ W.cell? ⟨w.heap.size, 1, none⟩ = some (.int .i64 (d : Int))) := fun W hW => by
    obtain ⟨g0, g1, _, _⟩ := StV.cells hks (x0.out.below' hW)
    rw [hu] at g0
    rw [hd] at g1
    exact ⟨g0, g1⟩
  have HTB : Hid (∀ k, -1 ≤ s.th k ∧ s.th k ≤ k) := fun k => ⟨thS_ge _ _ _ _, thS_le _ _ _ _⟩
  generalize s.th = t at *
  generalize s.cs.toArray = cs at *
  have hd1 : 1 ≤ d := by omega
  have hd2 : d ≤ 64 := by omega
  have hu2 : u ≤ 14 := by omega
  have hdi : (d : Int) ≤ 64 := by omega
  have hui : (u : Int) ≤ 14 := by omega
  have hmm := @run_makeMap Tryz.prog
  clear hW0 hcmp h hok hl hks q1 q2 q3 q4 hd hu
  go_enter Tryz.func61, Tryz.ntmps61
  go_wp2_with (first
    | (rw [← HW0.out])
    | (refine wpList_load_row rfl 29 (.tmp 1) rfl (w.heap.size) rfl 29 cs (0, 0) _ x0.out Tryz.underlying29 rfl HIN.out ?_)
    | (rw [← HW2.out])
    | (go_at_call 21; (with_reducible refine (HCK.out _ b0.out).mono ?_); rintro e w1 ⟨rfl, hb⟩; obtain ⟨W2, hW2⟩ : ∃ W, W = w1.alloc (.cells Tryz.zeroCells160 160) := ⟨_, rfl⟩; have D1 := Lib.hid hb; have D2 : Hid (Below W0.heap.size W0 W2) := (by unfold Hid; rw [hW2]; exact bel_on hb (alloc_bel _ _)); have B2 : Hid (Blk W2 w1.heap.size 160 (mostC t 0).toArray) := (by unfold Hid; rw [hW2, mostC_zero t]; exact Blk.new _ _ _); have hz2 : Hid (w1.heap.size < W2.heap.size ∧ W0.heap.size ≤ w1.heap.size) := (by unfold Hid; rw [hW2]; exact ⟨by simp, hb.size⟩); obtain ⟨c0, c1⟩ := HCL.out _ D2.out; have HW2 := Lib.hid hW2; clear hb hW2))
  clear c0 c1
  go_loopw [20] (fun vk wr => ∃ k : Nat, k ≤ 2 * d + 1 ∧ vk = .int .i64 (k : Int) ∧ Hid (Blk wr w1.heap.size 160 (mostC t k).toArray) ∧ Below w1.heap.size W2 wr) (fun vk _ => 2 * d + 1 - (intOf vk).toNat)
  case atStart => exact ⟨0, by omega, rfl, B2.out, Below.refl _ _⟩
  case round =>
    obtain ⟨k, hk, rfl, HB, hbel⟩ := hrel
    have hbl : Hid (Below W0.heap.size W0 wr) := D2.out.trans (hbel.mono hz2.out.2)
    obtain ⟨c0, c1⟩ := HCL.out _ hbl.out
    have X1 := Lib.hid (x0.out.below' hbl.out)
    by_cases hlt : k < 2 * d + 1
    · have hki : (k : Int) < 2 * (d : Int) + 1 := by omega
      have hk129 : (k : Int) < 129 := by omega
      have hk0 : (0 : Int) ≤ k := by omega
      have HT2 := Lib.hid (HTO.out k (by omega))
      have HS := Lib.hid (mostC_put t (k := k) (by omega))
      have HA := Lib.hid (mostC_at (t := t) (k := k) (by omega))
      go_wp2_with (first
        | (refine wpList_load_row rfl 29 (.tmp 1) rfl (w.heap.size) rfl 29 cs (0, 0) _ X1.out Tryz.underlying29 rfl HIN.out ?_)
        | (go_at_call 100; (with_reducible refine (HT2.out _ (bel_on b0.out hbl.out)).mono ?_); rintro e w3 ⟨rfl, hb⟩; have B3 := Lib.hid (HB.out.below' hb); have D3 := Lib.hid (hbel.trans (hb.mono (Nat.le_trans (Nat.le_of_lt hz2.out.1) hbel.size))); have hc3 := (B3.out.cell k).trans HA.out; have hf3 := B3.out.frozen k; clear hb))
      have hB4 := B3.out.set_ k (.int .i64 (t k))
      rw [HS.out] at hB4
      have D4 := D3.out.setCell (p := ⟨w1.heap.size, k, none⟩) (Nat.le_refl _) (.int .i64 (t k))
      go_roundw
      case rel => exact ⟨k + 1, by omega, by go_num, hB4, D4⟩
      case measure => simp [intOf]; omega
    · obtain rfl : k = 2 * d + 1 := by omega
      have hx : ¬ (((2 * d + 1 : Nat) : Int) < 2 * (d : Int) + 1) := by omega
      have hx2 : ¬ (2 * (d : Int) + 1 < 2 * (d : Int) + 1) := by omega
      have HM : Hid (∀ W, Below wr.heap.size wr W → ∀ i, i ≤ 2 * d → W.cell? ⟨w1.heap.size, i, none⟩ = some (.int .i64 (t i))) := fun W hW i hi => ((HB.out.below' hW).cell i).trans (mostC_get (by omega) (by omega))
      obtain ⟨wd, hwd⟩ : ∃ wd : World, wd = wr := ⟨_, rfl⟩
      rw [← hwd] at HM hbl X1 c0 c1 ⊢
      have HCD : Hid (∀ W, Below wd.heap.size wd W → W.cell? ⟨w.heap.size, 0, none⟩ = some (.int .i64 ((u + 2 : Nat) : Int)) ∧ W.cell? ⟨w.heap.size, 1, none⟩ = some (.int .i64 (d : Int))) := fun W hW => HCL.out _ (bel_on hbl.out hW)
      have HBD := Lib.hid (bel_on b0.out hbl.out)
      have e2 : IntKind.i64.wrap (((u + 2 : Nat) : Int) - 2) = (u : Int) := by rw [IntKind.wrap_i64]; omega
      clear HB hbel hwd
      have c0' : (wd.alloc (.map #[] 0)).cell? ⟨w.heap.size, 0, none⟩ = some (.int .i64 ((u + 2 : Nat) : Int)) := (HCD.out _ (alloc_bel _ _)).1
      go_wp2_with (first
        | (refine wpList_insert_mf _ rfl (.tmp 29) _ _ 161 rfl 3 4 intKey Tryz.underlying3 Tryz.underlying161 wd.heap.size 0 (fun _ => none) rfl (MF.made _ _ _) (by unfold maxLen; omega) 0 (.bool true) rfl rfl (by decide) ?_; intro w5 hm5 hg5; have D5 : Hid (Below wd.heap.size wd w5) := (alloc_bel wd (.map #[] 0)).grown hg5 (by simp) (fun j hj => by cases hj; exact Nat.le_refl _); have M5 : Hid (MF Tryz.prog 3 w5 wd.heap.size (d + 1) (setF d (mayS d t 0))) := (MF.tightSet (hm5.congr fun z _ => start_set d t z)); obtain ⟨c5, c5'⟩ := HCD.out _ D5.out; clear hm5 hg5))
      clear c0 c0' c1 c5 c5' X1
      go_loopw [7, 34] (fun vm vj wr => ∃ (j bm : Nat), j ≤ u ∧ vj = .int .i64 (j : Int) ∧ vm = .map (some bm) ∧ Hid (wd.heap.size ≤ bm) ∧ Hid (MF Tryz.prog 3 wr bm (d + 1) (setF d (mayS d t j))) ∧ Below wd.heap.size wd wr) (fun _ vj _ => u - (intOf vj).toNat)
      case atStart => exact ⟨0, _, by omega, rfl, rfl, Nat.le_refl _, M5.out, D5.out⟩
      case round =>
        obtain ⟨j, bm, hj, rfl, rfl, HBM, HMF, hbel⟩ := hrel
        by_cases hlt : j < u
        · have hji : (j : Int) < u := by omega
          obtain ⟨b2, hb2⟩ : ∃ b2, wr.heap.size = b2 := ⟨_, rfl⟩
          obtain ⟨wm, hwm⟩ : ∃ wm, wm = wr.alloc (.map #[] 0) := ⟨_, rfl⟩
          have DM : Hid (Below wd.heap.size wd wm) := by unfold Hid; rw [hwm]; exact bel_on hbel (alloc_bel _ _)
          have MM : Hid (MF Tryz.prog 3 wm bm (d + 1) (setF d (mayS d t j))) := by unfold Hid; rw [hwm]; exact HMF.out.below (alloc_bel _ _)
          have MN : Hid (MF Tryz.prog 3 wm b2 0 (fun _ => none)) := by unfold Hid; rw [hwm, ← hb2]; exact MF.made _ _ _
          have HNE : Hid (bm ≠ b2 ∧ wd.heap.size ≤ b2 ∧ b2 < wm.heap.size) := by
            have := HMF.out.lt
            have h3 := hbel.size
            exact ⟨by omega, by omega, by rw [hwm]; simp; omega⟩
          have hmk : (Instr.makeMap 161 none).run Tryz.prog wr = .ok (.map (some b2)) wm := by rw [hwm, ← hb2]; exact hmm _ _
          clear hwm hb2 hmm
          go_wp2_with (first
            | (at_range; refine wpList_range_mf _ rfl _ 161 rfl 3 4 intKey Tryz.underlying161 bm (d + 1) _ rfl MM.out ?_; intro w6 cnt6 hr6 hg6 hs6; have R6 := Lib.hid hr6; have N6 := Lib.hid (MN.out.kept hg6 (by simp)); have D6 : Hid (Below wd.heap.size wd w6) := DM.out.grown hg6 DM.out.size (fun j hj => by cases hj); clear hr6 hg6 hs6))
          try go_frame
          go_loopw [9] (fun _ wr => ∃ (left : Int → Bool) (cnt : Nat), Hid (MFR Tryz.prog 3 wr bm wm.heap.size (d + 1) (setF d (mayS d t j)) left cnt) ∧ Hid (MF Tryz.prog 3 wr b2 (d + 1) (setF d (nextP d t j left))) ∧ Below wd.heap.size wd wr) (fun _ w' => w'.rangeLeft bm wm.heap.size)
          case atStart => exact ⟨_, cnt6, R6.out, (N6.out.congr fun z _ => by rw [setF_congr (q := fun _ => false) (fun x _ => nextP_start) z]; exact setF_none z).tightSet, D6.out⟩
          case round =>
            obtain ⟨left, cnt, HR, HN, hbel3⟩ := hrel
            go_wp2_with (first
              | (at_next; refine wpList_next_mf _ rfl _ rfl 3 intKey Tryz.underlying3 bm wm.heap.size (d + 1) _ _ _ rfl HR.out ?_ ?_))
            · intro hl0
              have N9 : Hid (MF Tryz.prog 3 wr b2 (d + 1) (setF d (mayS d t (j + 1)))) := HN.out.congr fun z _ => setF_congr (fun x _ => nextP_end (fun v hv => hl0 _ (wf_small (by omega))) x) z
              clear hl0
              go_wp2_with fail
              go_roundw
              case rel => exact ⟨j + 1, b2, by omega, by go_num, rfl, HNE.out.2.1, N9.out, hbel3⟩
              case measure => simp [intOf]; omega
            · intro sx vx w7 cnt7 hws hls hfs hr7 hlt7 hg7 hs7 hen
              obtain ⟨x, rfl, hxd, hmx, rfl⟩ := setF_some hfs
              have HMX := Lib.hid hmx
              have HLT := Lib.hid hlt7
              have hxi : (x : Int) ≤ d := by omega
              have hx0 : (0 : Int) ≤ x := by omega
              have R7 := Lib.hid hr7
              have hrl : Hid (wm.heap.size ≠ b2 ∧ wd.heap.size ≤ wm.heap.size) := ⟨by have := HNE.out; omega, DM.out.size⟩
              have N7 := Lib.hid (HN.out.kept hg7 (by simpa using fun e => hrl.out.1 e.symm))
              have D7 : Hid (Below wd.heap.size wd w7) := hbel3.grown hg7 hbel3.size (fun j hj => by cases hj; exact hrl.out.2)
              obtain ⟨c0, c1⟩ := HCD.out _ D7.out
              clear hws hls hfs hr7 hlt7 hg7 hs7 hmx
              go_wp2_with fail
              clear c0 c1
              go_loopw [46] (fun vi wr => ∃ i : Nat, i ≤ d + 1 ∧ vi = .int .i64 (i : Int) ∧ Hid (MFR Tryz.prog 3 wr bm wm.heap.size (d + 1) (setF d (mayS d t j)) (fun z => left z && !(z == (x : Int))) cnt7) ∧ Hid (MF Tryz.prog 3 wr b2 (d + 1) (setF d (fun y => nextP d t j left y || (decide (y < i) && decide (t (x + y) < (x : Int)))))) ∧ Below wd.heap.size wd wr) (fun vi _ => d + 1 - (intOf vi).toNat)
              case atStart => exact ⟨0, by omega, rfl, R7.out, N7.out.congr fun z _ => setF_congr (fun y _ => by simp) z, D7.out⟩
              case round =>
                obtain ⟨i, hi, rfl, HR4, HN4, hbel4⟩ := hrel
                by_cases hlt4 : i < d + 1
                · have hii : (i : Int) < (d : Int) + 1 := by omega
                  have hi0 : (0 : Int) ≤ i := by omega
                  obtain ⟨y, hy⟩ : ∃ y, x + i = y := ⟨_, rfl⟩
                  have hc := HM.out _ hbel4 (x + i) (by omega)
                  rw [hy] at hc
                  have e3 : IntKind.i64.wrap ((x : Int) + (i : Int)) = (y : Int) := by rw [IntKind.wrap_i64]; omega
                  have e3' : (x : Int) + (i : Int) = (y : Int) := by omega
                  have hy1 : (y : Int) < 129 := by omega
                  have hy0 : (0 : Int) ≤ y := by omega
                  have hyt : t (x + i) = t y := by rw [hy]
                  obtain ⟨ty, hty⟩ : ∃ ty, t y = ty := ⟨_, rfl⟩
                  rw [hty] at hc hyt
                  have HYT := Lib.hid hyt
                  clear hyt hty hy
                  by_cases ht : ty < (x : Int)
                  · have N5 : Hid (∀ w8, MF Tryz.prog 3 w8 b2 (d + 1 + 1) (putF (setF d (fun y => nextP d t j left y || (decide (y < i) && decide (t (x + y) < (x : Int))))) (i : Int) (.bool true)) → MF Tryz.prog 3 w8 b2 (d + 1) (setF d (fun y => nextP d t j left y || (decide (y < i + 1) && decide (t (x + y) < (x : Int)))))) := fun w8 hm => (hm.congr fun z _ => by
                      rw [setF_put (by omega)]
                      refine setF_congr (fun y hyd => ?_) z
                      by_cases e : y = i
                      · subst e; rw [HYT.out]; simp [ht]
                      · have : (y < i) ↔ (y < i + 1) := by omega
                        simp [e, this]).tightSet
                    go_wp2_with (first
                      | (at_mapUpdate; refine wpList_update_mf _ rfl _ _ _ 161 rfl 3 4 intKey Tryz.underlying3 Tryz.underlying161 b2 (d + 1) _ rfl HN4.out (by unfold maxLen; omega) (i : Int) (.bool true) rfl rfl (wf_small (by omega)) ?_; intro w8 hm8 hg8; have N8 := Lib.hid (N5.out _ hm8); have R8 := Lib.hid (HR4.out.kept hg8 (by simpa using HNE.out.1) (by simpa using hrl.out.1)); have D8 : Hid (Below wd.heap.size wd w8) := hbel4.grown hg8 hbel4.size (fun j hj => by cases hj; exact HNE.out.2.1); clear hm8 hg8; go_frame))
                    go_roundw
                    case rel => exact ⟨i + 1, by omega, by go_num, R8.out, N8.out, D8.out⟩
                    case measure => simp [intOf]; omega
                  · have N8 : Hid (MF Tryz.prog 3 wr b2 (d + 1) (setF d (fun y => nextP d t j left y || (decide (y < i + 1) && decide (t (x + y) < (x : Int)))))) := HN4.out.congr fun z _ => setF_congr (fun y hyd => by
                      by_cases e : y = i
                      · subst e; rw [HYT.out]; simp [ht]
                      · have : (y < i) ↔ (y < i + 1) := by omega
                        simp [this]) z
                    go_wp2_with fail
                    go_roundw
                    case rel => exact ⟨i + 1, by omega, by go_num, HR4.out, N8.out, hbel4⟩
                    case measure => simp [intOf]; omega
                · obtain rfl : i = d + 1 := by omega
                  have hx4 : ¬ (((d + 1 : Nat) : Int) < (d : Int) + 1) := by omega
                  have hx5 : ¬ ((d : Int) + 1 < (d : Int) + 1) := by omega
                  have N9 : Hid (MF Tryz.prog 3 wr b2 (d + 1) (setF d (nextP d t j (fun z => left z && !(z == (x : Int)))))) := HN4.out.congr fun z _ => setF_congr (fun y hyd => nextP_step hxd HMX.out hyd) z
                  go_wp2_with fail
                  go_roundw
                  case rel => exact ⟨_, cnt7, HR4.out, N9.out, hbel4⟩
                  case measure => rw [HR4.out.left_eq, HR.out.left_eq]; exact HLT.out
        · obtain rfl : j = u := by omega
          have hxj : ¬ ((j : Int) < j) := by omega
          obtain ⟨c0, c1⟩ := HCD.out _ hbel
          go_wp2_with (first
            | (at_lookup; refine wpList_lookup_mf _ rfl _ _ 161 rfl 3 4 intKey Tryz.underlying3 Tryz.underlying161 (.bool false) (zeroBool _) bm (d + 1) _ rfl HMF.out (d : Int) rfl (wf_small (by omega)) ?_; rw [setF_get]))
          go_ret2
          exact ⟨rfl, bel_on HBD.out hbel⟩
end Go.Proofs.YtenpkmgbaajeeaaGreat

/- A map of naturals; what the closure of a spread puts into it. -/
namespace Go.Proofs.YtenpkmgbaajeeaaGreat
open Go.RowKit Go.Maps
set_option linter.unusedVariables false
set_option linter.unusedSimpArgs false

/-- What the map holds at a key. -/
def NV (w : World) (v : Option Value) (x : Nat) : Prop := (v = none ∧ x = 0) ∨ ∃ A c, v = some (.slice A (digs x).length c) ∧ NR w A c (digs x)
def NM (w : World) (b n : Nat) (h : Int → Nat) (lo hi : Int) : Prop := ∃ f, MF Tryz.prog 3 w b n f ∧ ∀ s, (Lit.int .i64 s).wf = true → NV w (f s) (h s) ∧ (f s ≠ none → lo ≤ s ∧ s ≤ hi)
theorem NV.below {w w' : World} {v : Option Value} {x : Nat} (h : NV w v x) (hb : Below w.heap.size w w') : NV w' v x := h.imp id fun ⟨A, c, e, hn⟩ => ⟨A, c, e, hn.below hb⟩
theorem zeroNat (w : World) : (zeroValue 25).run Tryz.prog w = .ok (.slice none 0 0) w := by kernel_rfl
theorem digs_zero_ : digs 0 = [] := by rfl
theorem NV.val {w : World} {v : Option Value} {x : Nat} (h : NV w v x) : ∃ X z, v.getD (.slice none 0 0) = .slice X (digs x).length z ∧ NR w X z (digs x) := by
  rcases h with ⟨rfl, rfl⟩ | ⟨A, c, rfl, hn⟩
  · exact ⟨none, 0, rfl, NR.nil w⟩
  · exact ⟨A, c, rfl, hn⟩
theorem NR.grownM {w w' : World} {A : Option Addr} {c b n : Nat} {l : List Nat} {f : Int → Option Value} (h : NR w A c l) (hm : MF Tryz.prog 3 w b n f) (hg : w.grownBy w' (some b)) : NR w' A c l :=
  h.grown_ (fun hl b' off hA e => by
    obtain ⟨D, ⟨es, clock, hh, _⟩, _⟩ := hm
    obtain ⟨bb, oo, hA2, _, hc⟩ := h.2.2.2 hl
    have hbb : b = bb := by
      rw [hA] at hA2
      injection hA2 with hA2
      injection hA2 with h1 _
      rw [← h1]
      exact Option.some.inj e
    subst hbb
    have := hc 0 (List.length_pos_iff.2 hl)
    simp [World.cell?, hh] at this) hg
theorem grown_trans {w w1 w2 : World} {row : Option Nat} (hb : Below w.heap.size w w1) (hg : w1.grownBy w2 row) : w.grownBy w2 row :=
  ⟨hg.os.trans hb.os, hg.tape.trans hb.tape, hg.output.trans hb.output, Nat.le_trans hb.size hg.size, fun k hk hne => (hg.block k (Nat.lt_of_lt_of_le hk hb.size) hne).trans (hb.block k hk)⟩

set_option maxHeartbeats 8000000 in
set_option maxRecDepth 1000000 in
theorem put_any (g b n : Nat) (h : Int → Nat) (lo hi s : Int) (A : Option Addr) (c x wt : Nat) (w : World) (hg : w.cell? ⟨g, 0, none⟩ = some (.map (some b))) (hgb : g ≠ b) (hm : NM w b n h lo hi) (hx : NR w A c (digs x)) (hs : lo ≤ s ∧ s ≤ hi) (hs1 : -1000000 ≤ s ∧ s ≤ 1000000) (hw : wt ≤ 1000)
    (hx1 : Sm x) (hp : Sm (x * wt)) (ht : Sm (h s + x * wt)) (hn : n < maxLen) :
    Calls Tryz.prog 158 #[.int .i64 s, .slice A (digs x).length c, .int .i64 (wt : Int), .pointer (some ⟨g, 0, none⟩)] w fun e w' => e = .returned (.tuple #[]) ∧ NM w' b (n + 1) (fun t => if t = s then h s + x * wt else h t) lo hi ∧ w.grownBy w' (some b) := by
  have mixed : Tryz.prog.follows Departure.mixedOrders = true := by kernel_rfl
  obtain ⟨f, hmf, hv⟩ := hm
  have hwf : (Lit.int .i64 s).wf = true := WalkArith.wf_i64 (by omega)
  obtain ⟨X, z, hfs, hX⟩ := (hv s hwf).1.val
  have HFS := Lib.hid hfs
  have HWF := Lib.hid hwf
  have HNL := Lib.hid hn
  have HMF : Hid (∀ W, Below w.heap.size w W → MF Tryz.prog 3 W b n f) := fun W hW => hmf.below hW
  have HS : Hid (∀ W, Below w.heap.size w W → W.cell? ⟨g, 0, none⟩ = some (.map (some b))) := fun W hW => (hW.cell (World.block_lt_of_cell? _ _ hg)).trans hg
  have HG6 : Hid (∀ W W', Below w.heap.size w W → W.grownBy W' (some b) → W'.cell? ⟨g, 0, none⟩ = some (.map (some b))) := fun W W' hW hg' => by
    have h1 := HS.out W hW
    rw [← h1]
    exact World.cell?_of_block (hg'.block g (World.block_lt_of_cell? _ _ h1) (by intro e; exact hgb (Option.some.inj e)))
  have HXW : Hid (∀ W, Below w.heap.size w W → NR W A c (digs x)) := fun W hW => hx.below hW
  have HHW : Hid (∀ W, Below w.heap.size w W → NR W X z (digs (h s))) := fun W hW => hX.below hW
  have hswt : Sm wt := (digs_len_le (Nat.lt_of_le_of_lt hw (by decide)))
  obtain ⟨lw, hlw⟩ : ∃ k, (digs wt).length = k := ⟨_, rfl⟩
  obtain ⟨lx, hlx⟩ : ∃ k, (digs x).length = k := ⟨_, rfl⟩
  obtain ⟨lh, hlh⟩ : ∃ k, (digs (h s)).length = k := ⟨_, rfl⟩
  obtain ⟨lp, hlp⟩ : ∃ k, (digs (x * wt)).length = k := ⟨_, rfl⟩
  obtain ⟨ls, hls⟩ : ∃ k, (digs (h s + x * wt)).length = k := ⟨_, rfl⟩
  have HOF : Hid (∀ W, Calls Tryz.prog 159 #[.int .u64 (wt : Int)] W fun e w' => (∃ O o, e = .returned (.slice O lw o) ∧ NR w' O o (digs wt)) ∧ Below W.heap.size W w') := fun W => by rw [← hlw]; exact ofD_any wt W (by omega)
  have HMU : Hid (∀ O o W, NR W A c (digs x) → NR W O o (digs wt) → Calls Tryz.prog 145 #[.slice A lx c, .slice O lw o] W fun e w' => (∃ M m, e = .returned (.tuple #[.slice M lp m, .int .i64 0]) ∧ NR w' M m (digs (x * wt))) ∧ Below W.heap.size W w') := fun O o W g1 g2 => by rw [← hlp]; exact mulD_any hp hx1 hswt hlx hlw g1 g2
  have HAD : Hid (∀ M m W, NR W X z (digs (h s)) → NR W M m (digs (x * wt)) → Calls Tryz.prog 108 #[.slice X lh z, .slice M lp m] W fun e w' => (∃ T t, e = .returned (.tuple #[.slice T ls t, .int .i64 0]) ∧ NR w' T t (digs (h s + x * wt))) ∧ Below W.heap.size W w') := fun M m W g1 g2 => by rw [← hls]; exact addD_any ht hlh hlp g1 g2
  have HEND : Hid (∀ (W W' : World) (T : Option Addr) (t : Nat), Below w.heap.size w W → NR W T t (digs (h s + x * wt)) → MF Tryz.prog 3 W' b (n + 1) (putF f s (.slice T ls t)) → W.grownBy W' (some b) → NM W' b (n + 1) (fun t => if t = s then h s + x * wt else h t) lo hi ∧ w.grownBy W' (some b)) := fun W W' T t hW hT hM hG => ⟨⟨_, hM, fun q hq => by
      obtain ⟨hq1, hq2⟩ := hv q hq
      have hMW := hmf.below hW
      unfold putF
      dsimp only
      by_cases e : q = s
      · subst e
        rw [if_pos rfl, if_pos rfl]
        exact ⟨.inr ⟨T, t, by rw [hls], hT.grownM hMW hG⟩, fun _ => hs⟩
      · rw [if_neg e, if_neg e]
        exact ⟨(hq1.below hW).imp id fun ⟨A', c', e', hn'⟩ => ⟨A', c', e', hn'.grownM hMW hG⟩, hq2⟩⟩, grown_trans hW hG⟩
  have ew : IntKind.u64.wrap (wt : Int) = (wt : Int) := by rw [IntKind.wrap_u64]; omega
  rw [hlh] at HFS
  rw [hlx]
  generalize h s + x * wt = sum at *
  generalize x * wt = prod at *
  clear hmf hv hfs hX hg hx hs hs1 hw hx1 hp ht hn hwf hswt hlw hlx hlh hlp hls
  go_enter Tryz.func158, Tryz.ntmps158
  go_wp2_with fail
  refine wp_region_noPanic ?_
  obtain ⟨v0, hv0⟩ : ∃ W, W = w.drew := ⟨_, rfl⟩
  have k0 : Below w.heap.size w v0 := by rw [hv0]; exact (Below.refl _ _).drew
  refine wp_region_held_drew (S := fun W => W.cell? ⟨g, 0, none⟩ = some (.map (some b))) (by kernel_rfl) (by rw [← hv0]; exact HS.out _ k0) (fun hS0 => ?_)
  rw [← hv0] at hS0 ⊢
  clear hv0
  refine hd_take 0 (.map (some b)) rfl rfl (by kernel_rfl) (by kernel_rfl) (by kernel_rfl) (fun _ _ _ h => h) (fun w hw => by have hx := hw; simp [go_sem, hx]) hS0 ?_
  refine hd_take 1 (.int .i64 s) rfl rfl (by kernel_rfl) (by kernel_rfl) (by kernel_rfl) (fun _ _ _ h => h) (fun w hw => by go_simp) hS0 ?_
  refine hd_take 2 (.map (some b)) rfl rfl (by kernel_rfl) (by kernel_rfl) (by kernel_rfl) (fun _ _ _ h => h) (fun w hw => by have hx := hw; simp [go_sem, hx]) hS0 ?_
  refine hd_take 3 (.int .i64 s) rfl rfl (by kernel_rfl) (by kernel_rfl) (by kernel_rfl) (fun _ _ _ h => h) (fun w hw => by go_simp) hS0 ?_
  refine hd_take 5 (.slice A lx c) rfl rfl (by kernel_rfl) (by kernel_rfl) (by kernel_rfl) (fun _ _ _ h => h) (fun w hw => by go_simp) hS0 ?_
  refine hd_take 6 (.int .i64 (wt : Int)) rfl rfl (by kernel_rfl) (by kernel_rfl) (by kernel_rfl) (fun _ _ _ h => h) (fun w hw => by go_simp) hS0 ?_
  simp only [List.getElem_toArray, List.getElem_cons_succ, List.getElem_cons_zero, Act.put, List.setIfInBounds_toArray, List.set_cons_zero, List.set_cons_succ]
  refine hd_take 7 (.int .u64 (wt : Int)) rfl rfl (by kernel_rfl) (by kernel_rfl) (by kernel_rfl) (fun _ _ _ h => h) (fun w hw => by simp [go_sem, ew]) hS0 ?_
  simp only [List.getElem_toArray, List.getElem_cons_succ, List.getElem_cons_zero, Act.put, List.setIfInBounds_toArray, List.set_cons_zero, List.set_cons_succ]
  refine hd_two 4 8 (by kernel_rfl) (op_run (.slice X lh z) v0 rfl rfl (by have hx := (HMF.out _ k0).lookup intKey Tryz.underlying3 Tryz.underlying120 (zeroNat v0) HWF.out; rw [HFS.out] at hx; simp [execOp, Act.eval, Act.put, Sem.run_bind, hx]) ⟨hS0, ?_⟩) (op_call 159 #[.int .u64 (wt : Int)] rfl rfl (by go_simp) ((HOF.out _).mono ?_))
  · simp only [List.getElem_toArray, List.getElem_cons_succ, List.getElem_cons_zero, Act.put, List.setIfInBounds_toArray, List.set_cons_zero, List.set_cons_succ]
    refine hd_calls 8 159 #[.int .u64 (wt : Int)] rfl rfl (by kernel_rfl) (by go_simp) ((HOF.out _).mono ?_)
    rintro e v1 ⟨⟨O, o, rfl, ho⟩, hb1⟩
    have k1 := bel_on k0 hb1
    have hS1 := HS.out _ k1
    refine ⟨_, rfl, hS1, ?_⟩
    simp only [List.getElem_toArray, List.getElem_cons_succ, List.getElem_cons_zero, Act.put, List.setIfInBounds_toArray, List.set_cons_zero, List.set_cons_succ]
    refine hd_calls 9 145 #[.slice A lx c, .slice O lw o] rfl rfl (by kernel_rfl) (by go_simp) ((HMU.out _ _ _ (HXW.out _ k1) ho).mono ?_)
    rintro e v2 ⟨⟨M, m, rfl, hm⟩, hb2⟩
    have k2 := bel_on k1 hb2
    have hS2 := HS.out _ k2
    refine ⟨_, rfl, hS2, ?_⟩
    simp only [List.getElem_toArray, List.getElem_cons_succ, List.getElem_cons_zero, Act.put, List.setIfInBounds_toArray, List.set_cons_zero, List.set_cons_succ]
    refine hd_take 10 (.slice M lp m) rfl rfl (by kernel_rfl) (by kernel_rfl) (by kernel_rfl) (fun _ _ _ h => h) (fun w hw => by go_simp) hS2 ?_
    refine hd_take 11 (.int .i64 0) rfl rfl (by kernel_rfl) (by kernel_rfl) (by kernel_rfl) (fun _ _ _ h => h) (fun w hw => by go_simp) hS2 ?_
    simp only [List.getElem_toArray, List.getElem_cons_succ, List.getElem_cons_zero, Act.put, List.setIfInBounds_toArray, List.set_cons_zero, List.set_cons_succ]
    refine hd_calls 12 107 #[.slice M lp m, .int .i64 0] rfl rfl (by kernel_rfl) (by go_simp) ((must_any M lp m 0 _).mono ?_)
    rintro e v3 ⟨rfl, hb3⟩
    have k3 := bel_on k2 hb3
    have hS3 := HS.out _ k3
    refine ⟨_, rfl, hS3, ?_⟩
    simp only [List.getElem_toArray, List.getElem_cons_succ, List.getElem_cons_zero, Act.put, List.setIfInBounds_toArray, List.set_cons_zero, List.set_cons_succ]
    refine hd_calls 13 108 #[.slice X lh z, .slice M lp m] rfl rfl (by kernel_rfl) (by go_simp) ((HAD.out _ _ _ (HHW.out _ k3) (hm.below hb3)).mono ?_)
    rintro e v4 ⟨⟨T, t, rfl, ht⟩, hb4⟩
    have k4 := bel_on k3 hb4
    have hS4 := HS.out _ k4
    refine ⟨_, rfl, hS4, ?_⟩
    simp only [List.getElem_toArray, List.getElem_cons_succ, List.getElem_cons_zero, Act.put, List.setIfInBounds_toArray, List.set_cons_zero, List.set_cons_succ]
    refine hd_take 14 (.slice T ls t) rfl rfl (by kernel_rfl) (by kernel_rfl) (by kernel_rfl) (fun _ _ _ h => h) (fun w hw => by go_simp) hS4 ?_
    refine hd_take 15 (.int .i64 0) rfl rfl (by kernel_rfl) (by kernel_rfl) (by kernel_rfl) (fun _ _ _ h => h) (fun w hw => by go_simp) hS4 ?_
    simp only [List.getElem_toArray, List.getElem_cons_succ, List.getElem_cons_zero, Act.put, List.setIfInBounds_toArray, List.set_cons_zero, List.set_cons_succ]
    refine hd_calls 16 107 #[.slice T ls t, .int .i64 0] rfl rfl (by kernel_rfl) (by go_simp) ((must_any T ls t 0 _).mono ?_)
    rintro e v5 ⟨rfl, hb5⟩
    have k5 := bel_on k4 hb5
    have hS5 := HS.out _ k5
    refine ⟨_, rfl, hS5, ?_⟩
    simp only [List.getElem_toArray, List.getElem_cons_succ, List.getElem_cons_zero, Act.put, List.setIfInBounds_toArray, List.set_cons_zero, List.set_cons_succ]
    obtain ⟨v6, hrun, hm6, hg6⟩ := (HMF.out _ k5).update intKey Tryz.underlying3 Tryz.underlying120 HNL.out HWF.out (.slice T ls t)
    have hS6 : v6.cell? ⟨g, 0, none⟩ = some (.map (some b)) := HG6.out _ _ k5 hg6
    refine hd_sole 17 (by kernel_rfl) (op_skip v6 rfl rfl (by simp [execOp, Act.eval, Act.put, Sem.run_bind, hrun]) ⟨hS6, ?_⟩)
    refine wpAnyH_done (by kernel_rfl) (NoPanic.normal ?_) _
    simp only [List.getElem_toArray, List.getElem_cons_succ, List.getElem_cons_zero, Act.put, List.setIfInBounds_toArray, List.set_cons_zero, List.set_cons_succ]
    go_wp2
    go_end0
    exact ⟨rfl, HEND.out _ _ _ _ k5 (ht.below hb5) hm6 hg6⟩
  · rintro e v1 ⟨⟨O, o, rfl, ho⟩, hb1⟩
    have k1 := bel_on k0 hb1
    have hS1 := HS.out _ k1
    refine ⟨_, rfl, hS1, ?_⟩
    simp only [List.getElem_toArray, List.getElem_cons_succ, List.getElem_cons_zero, Act.put, List.setIfInBounds_toArray, List.set_cons_zero, List.set_cons_succ]
    refine hd_two 4 9 (by kernel_rfl) (op_run (.slice X lh z) v1 rfl rfl (by have hx := (HMF.out _ k1).lookup intKey Tryz.underlying3 Tryz.underlying120 (zeroNat v1) HWF.out; rw [HFS.out] at hx; simp [execOp, Act.eval, Act.put, Sem.run_bind, hx]) ⟨hS1, ?_⟩) (op_call 145 #[.slice A lx c, .slice O lw o] rfl rfl (by go_simp) ((HMU.out _ _ _ (HXW.out _ k1) ho).mono ?_))
    · simp only [List.getElem_toArray, List.getElem_cons_succ, List.getElem_cons_zero, Act.put, List.setIfInBounds_toArray, List.set_cons_zero, List.set_cons_succ]
      refine hd_calls 9 145 #[.slice A lx c, .slice O lw o] rfl rfl (by kernel_rfl) (by go_simp) ((HMU.out _ _ _ (HXW.out _ k1) ho).mono ?_)
      rintro e v2 ⟨⟨M, m, rfl, hm⟩, hb2⟩
      have k2 := bel_on k1 hb2
      have hS2 := HS.out _ k2
      refine ⟨_, rfl, hS2, ?_⟩
      simp only [List.getElem_toArray, List.getElem_cons_succ, List.getElem_cons_zero, Act.put, List.setIfInBounds_toArray, List.set_cons_zero, List.set_cons_succ]
      refine hd_take 10 (.slice M lp m) rfl rfl (by kernel_rfl) (by kernel_rfl) (by kernel_rfl) (fun _ _ _ h => h) (fun w hw => by go_simp) hS2 ?_
      refine hd_take 11 (.int .i64 0) rfl rfl (by kernel_rfl) (by kernel_rfl) (by kernel_rfl) (fun _ _ _ h => h) (fun w hw => by go_simp) hS2 ?_
      simp only [List.getElem_toArray, List.getElem_cons_succ, List.getElem_cons_zero, Act.put, List.setIfInBounds_toArray, List.set_cons_zero, List.set_cons_succ]
      refine hd_calls 12 107 #[.slice M lp m, .int .i64 0] rfl rfl (by kernel_rfl) (by go_simp) ((must_any M lp m 0 _).mono ?_)
      rintro e v3 ⟨rfl, hb3⟩
      have k3 := bel_on k2 hb3
      have hS3 := HS.out _ k3
      refine ⟨_, rfl, hS3, ?_⟩
      simp only [List.getElem_toArray, List.getElem_cons_succ, List.getElem_cons_zero, Act.put, List.setIfInBounds_toArray, List.set_cons_zero, List.set_cons_succ]
      refine hd_calls 13 108 #[.slice X lh z, .slice M lp m] rfl rfl (by kernel_rfl) (by go_simp) ((HAD.out _ _ _ (HHW.out _ k3) (hm.below hb3)).mono ?_)
      rintro e v4 ⟨⟨T, t, rfl, ht⟩, hb4⟩
      have k4 := bel_on k3 hb4
      have hS4 := HS.out _ k4
      refine ⟨_, rfl, hS4, ?_⟩
      simp only [List.getElem_toArray, List.getElem_cons_succ, List.getElem_cons_zero, Act.put, List.setIfInBounds_toArray, List.set_cons_zero, List.set_cons_succ]
      refine hd_take 14 (.slice T ls t) rfl rfl (by kernel_rfl) (by kernel_rfl) (by kernel_rfl) (fun _ _ _ h => h) (fun w hw => by go_simp) hS4 ?_
      refine hd_take 15 (.int .i64 0) rfl rfl (by kernel_rfl) (by kernel_rfl) (by kernel_rfl) (fun _ _ _ h => h) (fun w hw => by go_simp) hS4 ?_
      simp only [List.getElem_toArray, List.getElem_cons_succ, List.getElem_cons_zero, Act.put, List.setIfInBounds_toArray, List.set_cons_zero, List.set_cons_succ]
      refine hd_calls 16 107 #[.slice T ls t, .int .i64 0] rfl rfl (by kernel_rfl) (by go_simp) ((must_any T ls t 0 _).mono ?_)
      rintro e v5 ⟨rfl, hb5⟩
      have k5 := bel_on k4 hb5
      have hS5 := HS.out _ k5
      refine ⟨_, rfl, hS5, ?_⟩
      simp only [List.getElem_toArray, List.getElem_cons_succ, List.getElem_cons_zero, Act.put, List.setIfInBounds_toArray, List.set_cons_zero, List.set_cons_succ]
      obtain ⟨v6, hrun, hm6, hg6⟩ := (HMF.out _ k5).update intKey Tryz.underlying3 Tryz.underlying120 HNL.out HWF.out (.slice T ls t)
      have hS6 : v6.cell? ⟨g, 0, none⟩ = some (.map (some b)) := HG6.out _ _ k5 hg6
      refine hd_sole 17 (by kernel_rfl) (op_skip v6 rfl rfl (by simp [execOp, Act.eval, Act.put, Sem.run_bind, hrun]) ⟨hS6, ?_⟩)
      refine wpAnyH_done (by kernel_rfl) (NoPanic.normal ?_) _
      simp only [List.getElem_toArray, List.getElem_cons_succ, List.getElem_cons_zero, Act.put, List.setIfInBounds_toArray, List.set_cons_zero, List.set_cons_succ]
      go_wp2
      go_end0
      exact ⟨rfl, HEND.out _ _ _ _ k5 (ht.below hb5) hm6 hg6⟩
    · rintro e v2 ⟨⟨M, m, rfl, hm⟩, hb2⟩
      have k2 := bel_on k1 hb2
      have hS2 := HS.out _ k2
      refine ⟨_, rfl, hS2, ?_⟩
      simp only [List.getElem_toArray, List.getElem_cons_succ, List.getElem_cons_zero, Act.put, List.setIfInBounds_toArray, List.set_cons_zero, List.set_cons_succ]
      refine hd_take 10 (.slice M lp m) rfl rfl (by kernel_rfl) (by kernel_rfl) (by kernel_rfl) (fun _ _ _ h => h) (fun w hw => by go_simp) hS2 ?_
      refine hd_take 11 (.int .i64 0) rfl rfl (by kernel_rfl) (by kernel_rfl) (by kernel_rfl) (fun _ _ _ h => h) (fun w hw => by go_simp) hS2 ?_
      simp only [List.getElem_toArray, List.getElem_cons_succ, List.getElem_cons_zero, Act.put, List.setIfInBounds_toArray, List.set_cons_zero, List.set_cons_succ]
      refine hd_two 4 12 (by kernel_rfl) (op_run (.slice X lh z) v2 rfl rfl (by have hx := (HMF.out _ k2).lookup intKey Tryz.underlying3 Tryz.underlying120 (zeroNat v2) HWF.out; rw [HFS.out] at hx; simp [execOp, Act.eval, Act.put, Sem.run_bind, hx]) ⟨hS2, ?_⟩) (op_call 107 #[.slice M lp m, .int .i64 0] rfl rfl (by go_simp) ((must_any M lp m 0 _).mono ?_))
      · simp only [List.getElem_toArray, List.getElem_cons_succ, List.getElem_cons_zero, Act.put, List.setIfInBounds_toArray, List.set_cons_zero, List.set_cons_succ]
        refine hd_calls 12 107 #[.slice M lp m, .int .i64 0] rfl rfl (by kernel_rfl) (by go_simp) ((must_any M lp m 0 _).mono ?_)
        rintro e v3 ⟨rfl, hb3⟩
        have k3 := bel_on k2 hb3
        have hS3 := HS.out _ k3
        refine ⟨_, rfl, hS3, ?_⟩
        simp only [List.getElem_toArray, List.getElem_cons_succ, List.getElem_cons_zero, Act.put, List.setIfInBounds_toArray, List.set_cons_zero, List.set_cons_succ]
        refine hd_calls 13 108 #[.slice X lh z, .slice M lp m] rfl rfl (by kernel_rfl) (by go_simp) ((HAD.out _ _ _ (HHW.out _ k3) (hm.below hb3)).mono ?_)
        rintro e v4 ⟨⟨T, t, rfl, ht⟩, hb4⟩
        have k4 := bel_on k3 hb4
        have hS4 := HS.out _ k4
        refine ⟨_, rfl, hS4, ?_⟩
        simp only [List.getElem_toArray, List.getElem_cons_succ, List.getElem_cons_zero, Act.put, List.setIfInBounds_toArray, List.set_cons_zero, List.set_cons_succ]
        refine hd_take 14 (.slice T ls t) rfl rfl (by kernel_rfl) (by kernel_rfl) (by kernel_rfl) (fun _ _ _ h => h) (fun w hw => by go_simp) hS4 ?_
        refine hd_take 15 (.int .i64 0) rfl rfl (by kernel_rfl) (by kernel_rfl) (by kernel_rfl) (fun _ _ _ h => h) (fun w hw => by go_simp) hS4 ?_
        simp only [List.getElem_toArray, List.getElem_cons_succ, List.getElem_cons_zero, Act.put, List.setIfInBounds_toArray, List.set_cons_zero, List.set_cons_succ]
        refine hd_calls 16 107 #[.slice T ls t, .int .i64 0] rfl rfl (by kernel_rfl) (by go_simp) ((must_any T ls t 0 _).mono ?_)
        rintro e v5 ⟨rfl, hb5⟩
        have k5 := bel_on k4 hb5
        have hS5 := HS.out _ k5
        refine ⟨_, rfl, hS5, ?_⟩
        simp only [List.getElem_toArray, List.getElem_cons_succ, List.getElem_cons_zero, Act.put, List.setIfInBounds_toArray, List.set_cons_zero, List.set_cons_succ]
        obtain ⟨v6, hrun, hm6, hg6⟩ := (HMF.out _ k5).update intKey Tryz.underlying3 Tryz.underlying120 HNL.out HWF.out (.slice T ls t)
        have hS6 : v6.cell? ⟨g, 0, none⟩ = some (.map (some b)) := HG6.out _ _ k5 hg6
        refine hd_sole 17 (by kernel_rfl) (op_skip v6 rfl rfl (by simp [execOp, Act.eval, Act.put, Sem.run_bind, hrun]) ⟨hS6, ?_⟩)
        refine wpAnyH_done (by kernel_rfl) (NoPanic.normal ?_) _
        simp only [List.getElem_toArray, List.getElem_cons_succ, List.getElem_cons_zero, Act.put, List.setIfInBounds_toArray, List.set_cons_zero, List.set_cons_succ]
        go_wp2
        go_end0
        exact ⟨rfl, HEND.out _ _ _ _ k5 (ht.below hb5) hm6 hg6⟩
      · rintro e v3 ⟨rfl, hb3⟩
        have k3 := bel_on k2 hb3
        have hS3 := HS.out _ k3
        refine ⟨_, rfl, hS3, ?_⟩
        simp only [List.getElem_toArray, List.getElem_cons_succ, List.getElem_cons_zero, Act.put, List.setIfInBounds_toArray, List.set_cons_zero, List.set_cons_succ]
        refine hd_sole 4 (by kernel_rfl) (op_run (.slice X lh z) v3 rfl rfl (by have hx := (HMF.out _ k3).lookup intKey Tryz.underlying3 Tryz.underlying120 (zeroNat v3) HWF.out; rw [HFS.out] at hx; simp [execOp, Act.eval, Act.put, Sem.run_bind, hx]) ⟨hS3, ?_⟩)
        simp only [List.getElem_toArray, List.getElem_cons_succ, List.getElem_cons_zero, Act.put, List.setIfInBounds_toArray, List.set_cons_zero, List.set_cons_succ]
        refine hd_calls 13 108 #[.slice X lh z, .slice M lp m] rfl rfl (by kernel_rfl) (by go_simp) ((HAD.out _ _ _ (HHW.out _ k3) (hm.below hb3)).mono ?_)
        rintro e v4 ⟨⟨T, t, rfl, ht⟩, hb4⟩
        have k4 := bel_on k3 hb4
        have hS4 := HS.out _ k4
        refine ⟨_, rfl, hS4, ?_⟩
        simp only [List.getElem_toArray, List.getElem_cons_succ, List.getElem_cons_zero, Act.put, List.setIfInBounds_toArray, List.set_cons_zero, List.set_cons_succ]
        refine hd_take 14 (.slice T ls t) rfl rfl (by kernel_rfl) (by kernel_rfl) (by kernel_rfl) (fun _ _ _ h => h) (fun w hw => by go_simp) hS4 ?_
        refine hd_take 15 (.int .i64 0) rfl rfl (by kernel_rfl) (by kernel_rfl) (by kernel_rfl) (fun _ _ _ h => h) (fun w hw => by go_simp) hS4 ?_
        simp only [List.getElem_toArray, List.getElem_cons_succ, List.getElem_cons_zero, Act.put, List.setIfInBounds_toArray, List.set_cons_zero, List.set_cons_succ]
        refine hd_calls 16 107 #[.slice T ls t, .int .i64 0] rfl rfl (by kernel_rfl) (by go_simp) ((must_any T ls t 0 _).mono ?_)
        rintro e v5 ⟨rfl, hb5⟩
        have k5 := bel_on k4 hb5
        have hS5 := HS.out _ k5
        refine ⟨_, rfl, hS5, ?_⟩
        simp only [List.getElem_toArray, List.getElem_cons_succ, List.getElem_cons_zero, Act.put, List.setIfInBounds_toArray, List.set_cons_zero, List.set_cons_succ]
        obtain ⟨v6, hrun, hm6, hg6⟩ := (HMF.out _ k5).update intKey Tryz.underlying3 Tryz.underlying120 HNL.out HWF.out (.slice T ls t)
        have hS6 : v6.cell? ⟨g, 0, none⟩ = some (.map (some b)) := HG6.out _ _ k5 hg6
        refine hd_sole 17 (by kernel_rfl) (op_skip v6 rfl rfl (by simp [execOp, Act.eval, Act.put, Sem.run_bind, hrun]) ⟨hS6, ?_⟩)
        refine wpAnyH_done (by kernel_rfl) (NoPanic.normal ?_) _
        simp only [List.getElem_toArray, List.getElem_cons_succ, List.getElem_cons_zero, Act.put, List.setIfInBounds_toArray, List.set_cons_zero, List.set_cons_succ]
        go_wp2
        go_end0
        exact ⟨rfl, HEND.out _ _ _ _ k5 (ht.below hb5) hm6 hg6⟩
end Go.Proofs.YtenpkmgbaajeeaaGreat

/- Words counted one by one, in plain words. -/
namespace Go.Proofs.YtenpkmgbaajeeaaGreat
set_option linter.unusedVariables false

/-- How many numbers below n have a property. -/
def cnt (P : Nat → Bool) (n : Nat) : Nat := sumN (fun h => if P h = true then 1 else 0) n
theorem cnt_congr {P Q : Nat → Bool} {n : Nat} (h : ∀ i, i < n → P i = Q i) : cnt P n = cnt Q n := sumN_congr fun i hi => by simp only [h i hi]
theorem cnt_double (P : Nat → Bool) (n : Nat) : cnt P (2 ^ (n + 1)) = cnt P (2 ^ n) + cnt (fun h => P (2 ^ n + h)) (2 ^ n) := by
  unfold cnt
  rw [show 2 ^ (n + 1) = 2 ^ n + 2 ^ n from by rw [Nat.pow_succ]; omega, sumN_split]
/-- What the places of a word add up to. -/
def stat (w : Nat → Bool → Nat) (n h : Nat) : Nat := sumN (fun i => w i (h.testBit i)) n
theorem stat_low (w : Nat → Bool → Nat) {n h : Nat} (hh : h < 2 ^ n) : stat w (n + 1) h = stat w n h + w n false := by
  unfold stat
  rw [sumN_succ, Nat.testBit_lt_two_pow hh]
theorem stat_high (w : Nat → Bool → Nat) {n h : Nat} (hh : h < 2 ^ n) : stat w (n + 1) (2 ^ n + h) = stat w n h + w n true := by
  unfold stat
  rw [sumN_succ, Nat.testBit_two_pow_add_eq, Nat.testBit_lt_two_pow hh]
  congr 1
  exact sumN_congr fun i hi => by rw [Nat.testBit_two_pow_add_gt hi]

/-- In how many places a word agrees with a copy. -/
def agreeW (y : Nat → Bool) (i : Nat) (b : Bool) : Nat := if b = y i then 1 else 0
/-- The sum of the choices of at least t of m things. -/
def fromN (m t : Nat) : Nat := sumN (fun i => if t ≤ i then bin m i else 0) (m + 1)
theorem fromN_zero (m : Nat) : fromN m 0 = 2 ^ m := by
  rw [← sumN_bin]
  exact sumN_congr fun i _ => by simp
theorem fromN_succ (m t : Nat) : fromN (m + 1) (t + 1) = fromN m (t + 1) + fromN m t := by
  unfold fromN
  rw [sumN_first]
  have e : sumN (fun i => if t + 1 ≤ i + 1 then bin (m + 1) (i + 1) else 0) (m + 1) = sumN (fun i => (if t ≤ i then bin m i else 0) + (if t + 1 ≤ i + 1 then bin m (i + 1) else 0)) (m + 1) := sumN_congr fun i _ => by
    by_cases h : t ≤ i
    · rw [if_pos (by omega), if_pos h, if_pos (by omega), bin_succ]
    · rw [if_neg (by omega), if_neg h, if_neg (by omega)]
  rw [e, sumN_add]
  have h2 := sumN_first (fun i => if t + 1 ≤ i then bin m i else 0) (m + 1)
  rw [sumN_succ, bin_above (a := m) (b := m + 1) (by omega)] at h2
  simp only [ite_self] at h2
  simp only [show ¬ t + 1 ≤ 0 from by omega, if_false] at h2 ⊢
  omega
theorem fromN_above {m t : Nat} (h : m < t) : fromN m t = 0 := sumN_zero fun i hi => by rw [if_neg (by omega)]
/-- Of all words of m places those that agree with a copy in at least t places. -/
theorem agree_count (y : Nat → Bool) : ∀ (m t : Nat), cnt (fun h => decide (t ≤ stat (agreeW y) m h)) (2 ^ m) = fromN m t
  | 0, t => by
    cases t with
    | zero => rfl
    | succ t => simp [cnt, sumN, stat, fromN]
  | m + 1, t => by
    rw [cnt_double]
    have h1 : cnt (fun h => decide (t ≤ stat (agreeW y) (m + 1) h)) (2 ^ m) = cnt (fun h => decide (t ≤ stat (agreeW y) m h + agreeW y m false)) (2 ^ m) := cnt_congr fun i hi => by rw [stat_low _ hi]
    have h2 : cnt (fun h => decide (t ≤ stat (agreeW y) (m + 1) (2 ^ m + h))) (2 ^ m) = cnt (fun h => decide (t ≤ stat (agreeW y) m h + agreeW y m true)) (2 ^ m) := cnt_congr fun i hi => by rw [stat_high _ hi]
    rw [h1, h2]
    cases t with
    | zero =>
      have a := agree_count y m 0
      simp only [Nat.zero_le, decide_true] at a ⊢
      rw [a, fromN_zero, fromN_zero, Nat.pow_succ]; omega
    | succ t =>
      have a := agree_count y m t
      have b := agree_count y m (t + 1)
      rw [fromN_succ]
      cases hy : y m with
      | false =>
        have e1 : agreeW y m false = 1 := by unfold agreeW; rw [hy]; rfl
        have e2 : agreeW y m true = 0 := by unfold agreeW; rw [hy]; rfl
        rw [e1, e2]
        simp only [Nat.add_zero, Nat.add_le_add_iff_right]
        rw [a, b]; omega
      | true =>
        have e1 : agreeW y m false = 0 := by unfold agreeW; rw [hy]; rfl
        have e2 : agreeW y m true = 1 := by unfold agreeW; rw [hy]; rfl
        rw [e1, e2]
        simp only [Nat.add_zero, Nat.add_le_add_iff_right]
        rw [a, b]

/-- How many places of a word are 1, of those that are marked, or of all. -/
def markW (mk : Nat → Bool) (i : Nat) (b : Bool) : Nat := if b = true ∧ mk i = true then 1 else 0
def oneW (_ : Nat) (b : Bool) : Nat := if b = true then 1 else 0
def markN (mk : Nat → Bool) (n : Nat) : Nat := sumN (fun i => if mk i = true then 1 else 0) n
theorem markN_le (mk : Nat → Bool) : ∀ n : Nat, markN mk n ≤ n
  | 0 => Nat.le_refl _
  | n + 1 => by
    have := markN_le mk n
    unfold markN at *
    rw [sumN_succ]
    split <;> omega
theorem pick_mark (k m d i : Nat) : pick (k + 1) m (d + 1) (i + 1) = pick k m (d + 1) (i + 1) + pick k m d i := by
  unfold pick
  by_cases h : i ≤ d
  · rw [if_pos (by omega), if_pos (by omega), if_pos h, bin_succ, show d + 1 - (i + 1) = d - i from by omega, Nat.add_mul]; omega
  · rw [if_neg (by omega), if_neg (by omega), if_neg h]
theorem pick_mark0 (k m d : Nat) : pick (k + 1) m d 0 = pick k m d 0 := by simp [pick, bin_zero]
theorem pick_plain (k m d i : Nat) : pick k (m + 1) (d + 1) i = pick k m (d + 1) i + pick k m d i := by
  unfold pick
  by_cases h : i ≤ d
  · rw [if_pos (by omega), if_pos (by omega), if_pos h, show d + 1 - i = (d - i) + 1 from by omega, bin_succ, Nat.mul_add]; omega
  · rw [if_neg h]
    by_cases h' : i ≤ d + 1
    · rw [if_pos h', if_pos h', show d + 1 - i = 0 from by omega, bin_zero, bin_zero]; omega
    · rw [if_neg h', if_neg h']
theorem pick_plain0 (k m i : Nat) : pick k (m + 1) 0 i = pick k m 0 i := by
  unfold pick
  by_cases h : i ≤ 0
  · rw [if_pos h, if_pos h, show 0 - i = 0 from by omega, bin_zero, bin_zero]
  · rw [if_neg h, if_neg h]
theorem cnt_none {P : Nat → Bool} {n : Nat} (h : ∀ i, i < n → P i = false) : cnt P n = 0 := sumN_zero fun i hi => by rw [h i hi]; rfl
/-- Of all words of n places those with d places that are 1, i of them marked. -/
theorem mark_count (mk : Nat → Bool) : ∀ (n d i : Nat), cnt (fun h => decide (stat oneW n h = d ∧ stat (markW mk) n h = i)) (2 ^ n) = pick (markN mk n) (n - markN mk n) d i
  | 0, d, i => by
    have e : markN mk 0 = 0 := rfl
    rw [e]
    rcases Nat.eq_zero_or_pos d with rfl | hd
    · rcases Nat.eq_zero_or_pos i with rfl | hi
      · rfl
      · rw [pick_above hi]
        exact cnt_none fun h _ => by simp [stat, sumN]; omega
    · rw [cnt_none fun h _ => decide_eq_false fun hh => by simp only [stat, sumN] at hh; omega]
      unfold pick
      split
      · rcases Nat.eq_zero_or_pos i with rfl | hi
        · rw [bin_above (a := 0 - 0) (b := d - 0) (by omega), Nat.mul_zero]
        · rw [bin_above hi, Nat.zero_mul]
      · rfl
  | n + 1, d, i => by
    have hle := markN_le mk n
    rw [cnt_double]
    have h1 : cnt (fun h => decide (stat oneW (n + 1) h = d ∧ stat (markW mk) (n + 1) h = i)) (2 ^ n) = cnt (fun h => decide (stat oneW n h = d ∧ stat (markW mk) n h = i)) (2 ^ n) := cnt_congr fun x hx => by
      rw [stat_low _ hx, stat_low _ hx]; simp [oneW, markW]
    have h2 : cnt (fun h => decide (stat oneW (n + 1) (2 ^ n + h) = d ∧ stat (markW mk) (n + 1) (2 ^ n + h) = i)) (2 ^ n) = cnt (fun h => decide (stat oneW n h + 1 = d ∧ stat (markW mk) n h + markW mk n true = i)) (2 ^ n) := cnt_congr fun x hx => by
      rw [stat_high _ hx, stat_high _ hx]; simp [oneW]
    rw [h1, h2, mark_count mk n d i]
    cases hm : mk n with
    | true =>
      have e1 : markN mk (n + 1) = markN mk n + 1 := by unfold markN; rw [sumN_succ, hm]; rfl
      have e2 : markW mk n true = 1 := by unfold markW; rw [hm]; rfl
      rw [e1, e2, show n + 1 - (markN mk n + 1) = n - markN mk n from by omega]
      cases i with
      | zero => rw [pick_mark0, cnt_none fun x _ => by simp]; omega
      | succ i =>
        cases d with
        | zero => rw [cnt_none fun x _ => by simp]; unfold pick; rw [if_neg (by omega), if_neg (by omega)]
        | succ d =>
          rw [pick_mark, ← mark_count mk n d i]
          simp only [Nat.add_right_cancel_iff]
    | false =>
      have e1 : markN mk (n + 1) = markN mk n := by unfold markN; rw [sumN_succ, hm]; rfl
      have e2 : markW mk n true = 0 := by unfold markW; rw [hm]; rfl
      rw [e1, e2, show n + 1 - markN mk n = (n - markN mk n) + 1 from by omega]
      cases d with
      | zero => rw [pick_plain0, cnt_none fun x _ => by simp]; omega
      | succ d =>
        rw [pick_plain, ← mark_count mk n d i]
        simp only [Nat.add_right_cancel_iff, Nat.add_zero]
theorem cnt_or {P Q : Nat → Bool} (n : Nat) (h : ∀ i, i < n → ¬ (P i = true ∧ Q i = true)) : cnt (fun i => P i || Q i) n = cnt P n + cnt Q n := by
  unfold cnt
  rw [← sumN_add]
  refine sumN_congr fun i hi => ?_
  have := h i hi
  cases hp : P i <;> cases hq : Q i <;> simp_all
/-- Of all words of n places with d places that are 1 those with fewer than x marked ones. -/
theorem mark_upto (mk : Nat → Bool) (n d : Nat) : ∀ x : Nat, cnt (fun h => decide (stat oneW n h = d ∧ stat (markW mk) n h < x)) (2 ^ n) = sumN (pick (markN mk n) (n - markN mk n) d) x
  | 0 => by rw [cnt_none fun h _ => by simp]; rfl
  | x + 1 => by
    rw [sumN_succ, ← mark_upto mk n d x, ← mark_count mk n d x, ← cnt_or]
    · refine cnt_congr fun h _ => ?_
      rw [Bool.eq_iff_iff, Bool.or_eq_true, decide_eq_true_eq, decide_eq_true_eq, decide_eq_true_eq]
      omega
    · intro h _ hh
      simp only [decide_eq_true_eq] at hh
      omega
theorem one_count (n d : Nat) : cnt (fun h => decide (stat oneW n h = d)) (2 ^ n) = bin n d := by
  have h := mark_upto (fun _ => false) n d 1
  have e : ∀ n h, stat (markW fun _ => false) n h = 0 := fun n h => sumN_zero fun i _ => by simp [markW]
  have e2 : markN (fun _ => false) n = 0 := sumN_zero fun i _ => by simp
  rw [e2] at h
  simp only [e] at h
  rw [show bin n d = sumN (pick 0 (n - 0) d) 1 from by simp [sumN, pick, bin_zero], ← h]
  exact cnt_congr fun i _ => by simp
end Go.Proofs.YtenpkmgbaajeeaaGreat

/- Chances of scores in plain words: how many words, weighted, reach a score. -/
namespace Go.Proofs.YtenpkmgbaajeeaaGreat
set_option linter.unusedVariables false

section
variable (g0 g1 : Nat → Int) (c0 c1 : Nat → Nat)
/-- The words of n places with the score s, weighted. -/
def countS : Nat → Int → Nat
  | 0, s => if s = 0 then 1 else 0
  | n + 1, s => countS n (s - g0 n) * c0 n + countS n (s - g1 n) * c1 n
/-- The words of n places with a score of z or more, weighted. -/
def reachS : Nat → Int → Nat
  | 0, z => if z ≤ 0 then 1 else 0
  | n + 1, z => reachS n (z - g0 n) * c0 n + reachS n (z - g1 n) * c1 n
def allS : Nat → Nat
  | 0 => 1
  | n + 1 => allS n * (c0 n + c1 n)
def lowT : Nat → Int
  | 0 => 0
  | n + 1 => lowT n + min (g0 n) (g1 n)
def highT : Nat → Int
  | 0 => 0
  | n + 1 => highT n + max (g0 n) (g1 n)
theorem reach_step : ∀ (n : Nat) (z : Int), reachS g0 g1 c0 c1 n z = reachS g0 g1 c0 c1 n (z + 1) + countS g0 g1 c0 c1 n z
  | 0, z => by
    simp only [reachS, countS]
    by_cases h : z < 0
    · rw [if_pos (by omega), if_pos (by omega), if_neg (by omega)]
    · by_cases h0 : z = 0
      · rw [if_pos (by omega), if_neg (by omega), if_pos h0]
      · rw [if_neg (by omega), if_neg (by omega), if_neg h0]
  | n + 1, z => by
    simp only [reachS, countS]
    rw [reach_step n (z - g0 n), reach_step n (z - g1 n), show z + 1 - g0 n = z - g0 n + 1 from by omega, show z + 1 - g1 n = z - g1 n + 1 from by omega, Nat.add_mul, Nat.add_mul]
    omega
theorem reach_low : ∀ (n : Nat) (z : Int), z ≤ lowT g0 g1 n → reachS g0 g1 c0 c1 n z = allS c0 c1 n
  | 0, z, h => by
    simp only [reachS, allS, lowT] at *
    rw [if_pos h]
  | n + 1, z, h => by
    simp only [reachS, allS, lowT] at *
    rw [reach_low n (z - g0 n) (by omega), reach_low n (z - g1 n) (by omega), Nat.mul_add]
theorem reach_high : ∀ (n : Nat) (z : Int), highT g0 g1 n < z → reachS g0 g1 c0 c1 n z = 0
  | 0, z, h => by
    simp only [reachS, highT] at *
    rw [if_neg (by omega)]
  | n + 1, z, h => by
    simp only [reachS, highT] at *
    rw [reach_high n (z - g0 n) (by omega), reach_high n (z - g1 n) (by omega)]; simp
theorem reach_anti (n : Nat) {z z' : Int} (h : z ≤ z') : reachS g0 g1 c0 c1 n z' ≤ reachS g0 g1 c0 c1 n z := by
  obtain ⟨d, rfl⟩ : ∃ d : Nat, z' = z + (d : Int) := ⟨(z' - z).toNat, by omega⟩
  clear h
  induction d with
  | zero => simp
  | succ d ih =>
    have := reach_step g0 g1 c0 c1 n (z + (d : Int))
    rw [show z + ((d + 1 : Nat) : Int) = z + (d : Int) + 1 from by omega]
    omega
theorem reach_all (n : Nat) (z : Int) : reachS g0 g1 c0 c1 n z ≤ allS c0 c1 n := by
  rcases Int.le_total z (lowT g0 g1 n) with h | h
  · rw [reach_low _ _ _ _ _ _ h]; exact Nat.le_refl _
  · rw [← reach_low g0 g1 c0 c1 n _ (Int.le_refl _)]
    exact reach_anti g0 g1 c0 c1 n h
theorem count_le (n : Nat) (z : Int) : countS g0 g1 c0 c1 n z ≤ allS c0 c1 n := by
  have := reach_step g0 g1 c0 c1 n z
  have := reach_all g0 g1 c0 c1 n z
  omega
theorem count_low (n : Nat) {s : Int} (h : s < lowT g0 g1 n) : countS g0 g1 c0 c1 n s = 0 := by
  have h1 := reach_step g0 g1 c0 c1 n s
  rw [reach_low _ _ _ _ _ _ (by omega), reach_low _ _ _ _ _ _ (by omega)] at h1
  omega
theorem count_high (n : Nat) {s : Int} (h : highT g0 g1 n < s) : countS g0 g1 c0 c1 n s = 0 := by
  have h1 := reach_step g0 g1 c0 c1 n s
  rw [reach_high _ _ _ _ _ _ h] at h1
  omega
theorem low_high : ∀ n : Nat, lowT g0 g1 n ≤ highT g0 g1 n
  | 0 => Int.le_refl _
  | n + 1 => by have := low_high n; simp only [lowT, highT]; omega
/-- The counts of k scores from the score lo on, those from z on alone. -/
theorem count_sum (n : Nat) (lo z : Int) : ∀ k : Nat, highT g0 g1 n < lo + (k : Int) → sumN (fun j => if z ≤ lo + (j : Int) then countS g0 g1 c0 c1 n (lo + (j : Int)) else 0) k = reachS g0 g1 c0 c1 n (max z lo) := by
  suffices hs : ∀ (k : Nat), sumN (fun j => if z ≤ lo + (j : Int) then countS g0 g1 c0 c1 n (lo + (j : Int)) else 0) k + reachS g0 g1 c0 c1 n (max z (lo + (k : Int))) = reachS g0 g1 c0 c1 n (max z lo) by
    intro k hk
    have := hs k
    rw [reach_high _ _ _ _ _ _ (by omega)] at this
    omega
  intro k
  induction k with
  | zero => simp [sumN]
  | succ k ih =>
    rw [sumN_succ, ← ih]
    by_cases h : z ≤ lo + (k : Int)
    · rw [if_pos h, Int.max_eq_right h, Int.max_eq_right (by omega), reach_step g0 g1 c0 c1 n (lo + (k : Int)), show lo + ((k + 1 : Nat) : Int) = lo + (k : Int) + 1 from by omega]
      omega
    · rw [if_neg h, show max z (lo + ((k + 1 : Nat) : Int)) = max z (lo + (k : Int)) from by omega]
      omega
/-- The words of n places, one by one: the score of a word, and its weight. -/
def scoreW : Nat → Nat → Int
  | 0, _ => 0
  | n + 1, h => scoreW n h + if h.testBit n = true then g1 n else g0 n
def weightW : Nat → Nat → Nat
  | 0, _ => 1
  | n + 1, h => weightW n h * if h.testBit n = true then c1 n else c0 n
theorem scoreW_high : ∀ (n m h : Nat), n ≤ m → scoreW g0 g1 n (2 ^ m + h) = scoreW g0 g1 n h
  | 0, _, _, _ => rfl
  | n + 1, m, h, hm => by rw [scoreW, scoreW, scoreW_high n m h (by omega), Nat.testBit_two_pow_add_gt (by omega)]
theorem weightW_high : ∀ (n m h : Nat), n ≤ m → weightW c0 c1 n (2 ^ m + h) = weightW c0 c1 n h
  | 0, _, _, _ => rfl
  | n + 1, m, h, hm => by rw [weightW, weightW, weightW_high n m h (by omega), Nat.testBit_two_pow_add_gt (by omega)]
/-- What reaches a score is the sum over all words that do. -/
theorem reach_words : ∀ (n : Nat) (z : Int), sumN (fun h => if z ≤ scoreW g0 g1 n h then weightW c0 c1 n h else 0) (2 ^ n) = reachS g0 g1 c0 c1 n z
  | 0, z => by by_cases h : z ≤ 0 <;> simp [sumN, scoreW, weightW, reachS, h]
  | n + 1, z => by
    rw [show 2 ^ (n + 1) = 2 ^ n + 2 ^ n from by rw [Nat.pow_succ]; omega, sumN_split, reachS, ← reach_words n (z - g0 n), ← reach_words n (z - g1 n), ← sumN_mul, ← sumN_mul]
    congr 1
    · refine sumN_congr fun h hh => ?_
      simp only [scoreW, weightW, Nat.testBit_lt_two_pow hh, Bool.false_eq_true, if_false]
      by_cases e : z ≤ scoreW g0 g1 n h + g0 n
      · rw [if_pos e, if_pos (by omega)]
      · rw [if_neg e, if_neg (by omega), Nat.zero_mul]
    · refine sumN_congr fun h hh => ?_
      have hb : (2 ^ n + h).testBit n = true := by rw [Nat.testBit_two_pow_add_eq, Nat.testBit_lt_two_pow hh]; rfl
      simp only [scoreW, weightW, hb, if_true, scoreW_high g0 g1 n n h (Nat.le_refl _), weightW_high c0 c1 n n h (Nat.le_refl _)]
      by_cases e : z ≤ scoreW g0 g1 n h + g1 n
      · rw [if_pos e, if_pos (by omega)]
      · rw [if_neg e, if_neg (by omega), Nat.zero_mul]
end
end Go.Proofs.YtenpkmgbaajeeaaGreat

/- The bound of a limit in plain words; the sums behind one more place. -/
namespace Go.Proofs.YtenpkmgbaajeeaaGreat
set_option linter.unusedVariables false

section
variable (g0 g1 : Nat → Int) (c0 c1 : Nat → Nat)
/-- The chance of z is at most num / den. -/
def inLim (n num den : Nat) (z : Int) : Bool := decide (reachS g0 g1 c0 c1 n z * den ≤ num * allS c0 c1 n)
/-- The least number whose chance is at most num / den. -/
def bndN (n num den : Nat) : Int := lowT g0 g1 n + 1 + (lead (fun j => !inLim g0 g1 c0 c1 n num den (lowT g0 g1 n + 1 + (j : Int))) (highT g0 g1 n - lowT g0 g1 n).toNat : Int)
theorem inLim_mono {n num den : Nat} {z z' : Int} (h : z ≤ z') (hz : inLim g0 g1 c0 c1 n num den z = true) : inLim g0 g1 c0 c1 n num den z' = true := by
  simp only [inLim, decide_eq_true_eq] at *
  exact Nat.le_trans (Nat.mul_le_mul_right den (reach_anti g0 g1 c0 c1 n h)) hz
theorem all_pos {n : Nat} (hc : ∀ i, i < n → 0 < c0 i + c1 i) : 0 < allS c0 c1 n := by
  induction n with
  | zero => exact Nat.one_pos
  | succ n ih => exact Nat.mul_pos (ih fun i hi => hc i (by omega)) (hc n (by omega))
theorem inLim_low {n num den : Nat} {z : Int} (hz : z ≤ lowT g0 g1 n) (hl : num < den) (hc : 0 < allS c0 c1 n) : inLim g0 g1 c0 c1 n num den z = false := by
  simp only [inLim, decide_eq_false_iff_not, reach_low g0 g1 c0 c1 n z hz]
  have := Nat.mul_lt_mul_of_pos_left hl hc
  rw [Nat.mul_comm (allS c0 c1 n) num] at this
  omega
theorem inLim_high {n num den : Nat} {z : Int} (hz : highT g0 g1 n < z) : inLim g0 g1 c0 c1 n num den z = true := by
  simp only [inLim, decide_eq_true_eq, reach_high g0 g1 c0 c1 n z hz]
  omega
theorem bnd_in (n num den : Nat) : inLim g0 g1 c0 c1 n num den (bndN g0 g1 c0 c1 n num den) = true := by
  have hlh := low_high g0 g1 n
  unfold bndN
  have hle := lead_le (fun j => !inLim g0 g1 c0 c1 n num den (lowT g0 g1 n + 1 + (j : Int))) (highT g0 g1 n - lowT g0 g1 n).toNat
  rcases Nat.lt_or_ge (lead (fun j => !inLim g0 g1 c0 c1 n num den (lowT g0 g1 n + 1 + (j : Int))) (highT g0 g1 n - lowT g0 g1 n).toNat) (highT g0 g1 n - lowT g0 g1 n).toNat with h | h
  · have := lead_end h
    simpa using this
  · exact inLim_high g0 g1 c0 c1 (by omega)
theorem bnd_out {n num den : Nat} (hl : num < den) (hc : 0 < allS c0 c1 n) : inLim g0 g1 c0 c1 n num den (bndN g0 g1 c0 c1 n num den - 1) = false := by
  unfold bndN
  generalize hk : lead (fun j => !inLim g0 g1 c0 c1 n num den (lowT g0 g1 n + 1 + (j : Int))) (highT g0 g1 n - lowT g0 g1 n).toNat = k
  cases k with
  | zero => exact inLim_low g0 g1 c0 c1 (by omega) hl hc
  | succ k =>
    have := lead_all (P := fun j => !inLim g0 g1 c0 c1 n num den (lowT g0 g1 n + 1 + (j : Int))) (n := (highT g0 g1 n - lowT g0 g1 n).toNat) (x := k) (by omega)
    rw [show lowT g0 g1 n + 1 + ((k + 1 : Nat) : Int) - 1 = lowT g0 g1 n + 1 + (k : Int) from by omega]
    simpa using this
theorem bnd_unique {n num den : Nat} (hl : num < den) (hc : 0 < allS c0 c1 n) {z : Int} (h1 : inLim g0 g1 c0 c1 n num den z = true) (h2 : inLim g0 g1 c0 c1 n num den (z - 1) = false) : z = bndN g0 g1 c0 c1 n num den := by
  have h3 := bnd_in g0 g1 c0 c1 n num den
  have h4 := bnd_out g0 g1 c0 c1 hl hc
  rcases Int.lt_trichotomy z (bndN g0 g1 c0 c1 n num den) with h | h | h
  · rw [inLim_mono g0 g1 c0 c1 (show z ≤ bndN g0 g1 c0 c1 n num den - 1 by omega) h1] at h4; cases h4
  · exact h
  · rw [inLim_mono g0 g1 c0 c1 (show bndN g0 g1 c0 c1 n num den ≤ z - 1 by omega) h3] at h2; cases h2
/-- What the next counts hold while the scores in 'left' are still to come. -/
def partW (n : Nat) (left : Int → Bool) (t : Int) : Nat := (if left (t - g0 n) = true then 0 else countS g0 g1 c0 c1 n (t - g0 n) * c0 n) + (if left (t - g1 n) = true then 0 else countS g0 g1 c0 c1 n (t - g1 n) * c1 n)
theorem partW_end {n : Nat} {left : Int → Bool} {t : Int} (h : ∀ s, left s = false) : partW g0 g1 c0 c1 n left t = countS g0 g1 c0 c1 (n + 1) t := by
  unfold partW
  rw [h, h]; rfl
theorem partW_le (n : Nat) (left : Int → Bool) (t : Int) : partW g0 g1 c0 c1 n left t ≤ allS c0 c1 (n + 1) := by
  have h : partW g0 g1 c0 c1 n left t ≤ countS g0 g1 c0 c1 (n + 1) t := by
    unfold partW
    show _ ≤ countS g0 g1 c0 c1 n (t - g0 n) * c0 n + countS g0 g1 c0 c1 n (t - g1 n) * c1 n
    split <;> split <;> omega
  exact Nat.le_trans h (count_le g0 g1 c0 c1 (n + 1) t)
end
end Go.Proofs.YtenpkmgbaajeeaaGreat

/- The next counts of a spread, step by step, in plain words. -/
namespace Go.Proofs.YtenpkmgbaajeeaaGreat
set_option linter.unusedVariables false

section
variable (g0 g1 : Nat → Int) (c0 c1 : Nat → Nat)
theorem count_in {n : Nat} {s : Int} (h : countS g0 g1 c0 c1 n s ≠ 0) : lowT g0 g1 n ≤ s ∧ s ≤ highT g0 g1 n := by
  constructor
  · rcases Int.lt_or_le s (lowT g0 g1 n) with h1 | h1
    · exact absurd (count_low g0 g1 c0 c1 n h1) h
    · exact h1
  · rcases Int.lt_or_le (highT g0 g1 n) s with h1 | h1
    · exact absurd (count_high g0 g1 c0 c1 n h1) h
    · exact h1
theorem partW_zero {n : Nat} {left : Int → Bool} {t : Int} (hl : ∀ s, countS g0 g1 c0 c1 n s ≠ 0 → left s = true) : partW g0 g1 c0 c1 n left t = 0 := by
  have h : ∀ s c, (if left s = true then 0 else countS g0 g1 c0 c1 n s * c) = 0 := fun s c => by
    by_cases e : countS g0 g1 c0 c1 n s = 0
    · rw [e]; simp
    · rw [if_pos (hl s e)]
  unfold partW
  rw [h, h]
theorem partW_fin {n : Nat} {left : Int → Bool} {t : Int} (hl : ∀ s, countS g0 g1 c0 c1 n s ≠ 0 → left s = false) : partW g0 g1 c0 c1 n left t = countS g0 g1 c0 c1 (n + 1) t := by
  have h : ∀ s c, (if left s = true then 0 else countS g0 g1 c0 c1 n s * c) = countS g0 g1 c0 c1 n s * c := fun s c => by
    by_cases e : countS g0 g1 c0 c1 n s = 0
    · rw [e]; simp
    · rw [hl s e]; simp
  unfold partW
  rw [h, h]; rfl
/-- What the first of the two puts of a score leaves. -/
def putOne (n : Nat) (left : Int → Bool) (s : Int) (t : Int) : Nat := if t = s + g0 n then partW g0 g1 c0 c1 n left (s + g0 n) + countS g0 g1 c0 c1 n s * c0 n else partW g0 g1 c0 c1 n left t
theorem partW_two {n : Nat} {left : Int → Bool} {s : Int} (hs : left s = true) (t : Int) : partW g0 g1 c0 c1 n (fun z => left z && !(z == s)) t = if t = s + g1 n then putOne g0 g1 c0 c1 n left s (s + g1 n) + countS g0 g1 c0 c1 n s * c1 n else putOne g0 g1 c0 c1 n left s t := by
  have h : ∀ (u : Int) (c : Nat), (if (left u && !(u == s)) = true then 0 else countS g0 g1 c0 c1 n u * c) = (if left u = true then 0 else countS g0 g1 c0 c1 n u * c) + (if u = s then countS g0 g1 c0 c1 n s * c else 0) := fun u c => by
    by_cases e : u = s
    · subst e
      have e2 : (u == u) = true := by simp
      rw [e2, hs]; simp
    · have e2 : (u == s) = false := by simpa using e
      rw [e2, if_neg e]; simp
  have hp : ∀ t, partW g0 g1 c0 c1 n (fun z => left z && !(z == s)) t = partW g0 g1 c0 c1 n left t + (if t - g0 n = s then countS g0 g1 c0 c1 n s * c0 n else 0) + (if t - g1 n = s then countS g0 g1 c0 c1 n s * c1 n else 0) := fun t => by
    unfold partW
    dsimp only
    rw [h, h]
    omega
  have h1 : ∀ t, putOne g0 g1 c0 c1 n left s t = partW g0 g1 c0 c1 n left t + (if t - g0 n = s then countS g0 g1 c0 c1 n s * c0 n else 0) := fun t => by
    unfold putOne
    by_cases e : t = s + g0 n
    · subst e; rw [if_pos rfl, if_pos (by omega)]
    · rw [if_neg e, if_neg (by omega)]; rfl
  rw [hp]
  by_cases e : t = s + g1 n
  · subst e; rw [if_pos rfl, if_pos (show s + g1 n - g1 n = s by omega), h1]
  · rw [if_neg e, if_neg (show ¬ t - g1 n = s by omega), h1]; rfl
theorem putOne_le {n : Nat} {left : Int → Bool} {s : Int} (hs : left s = true) : putOne g0 g1 c0 c1 n left s (s + g0 n) ≤ allS c0 c1 (n + 1) := by
  have h1 := partW_two g0 g1 c0 c1 (n := n) hs (s + g0 n)
  have h2 := partW_le g0 g1 c0 c1 n (fun z => left z && !(z == s)) (s + g0 n)
  by_cases e : s + g0 n = s + g1 n
  · rw [if_pos e, ← e] at h1; omega
  · rw [if_neg e] at h1; omega
theorem putTwo_le {n : Nat} {left : Int → Bool} {s : Int} (hs : left s = true) : putOne g0 g1 c0 c1 n left s (s + g1 n) + countS g0 g1 c0 c1 n s * c1 n ≤ allS c0 c1 (n + 1) := by
  have h1 := partW_two g0 g1 c0 c1 (n := n) hs (s + g1 n)
  have h2 := partW_le g0 g1 c0 c1 n (fun z => left z && !(z == s)) (s + g1 n)
  rw [if_pos rfl] at h1; omega
theorem putOne_at {n : Nat} {left : Int → Bool} {s : Int} : putOne g0 g1 c0 c1 n left s (s + g0 n) = partW g0 g1 c0 c1 n left (s + g0 n) + countS g0 g1 c0 c1 n s * c0 n := by unfold putOne; rw [if_pos rfl]
theorem low_bd {k : Nat} {n : Nat} (h : ∀ j, j < n → -(k : Int) ≤ g0 j ∧ g0 j ≤ k ∧ -(k : Int) ≤ g1 j ∧ g1 j ≤ k) : -((k : Int) * n) ≤ lowT g0 g1 n ∧ highT g0 g1 n ≤ (k : Int) * n := by
  induction n with
  | zero => simp [lowT, highT]
  | succ n ih =>
    have h1 := ih fun j hj => h j (by omega)
    have h2 := h n (by omega)
    have e : (k : Int) * ((n + 1 : Nat) : Int) = (k : Int) * n + k := by rw [Int.natCast_add, Int.mul_add]; omega
    rw [lowT, highT, e]
    omega
theorem all_pow {b : Nat} {n : Nat} (h : ∀ j, j < n → c0 j + c1 j = b) : allS c0 c1 n = b ^ n := by
  induction n with
  | zero => rfl
  | succ n ih => rw [allS, ih fun j hj => h j (by omega), h n (by omega), Nat.pow_succ]
/-- The sum over the scores of a list that are z or more. -/
theorem reach_nil {n : Nat} {z : Int} (hz : ∀ s, z ≤ s → countS g0 g1 c0 c1 n s = 0) : reachS g0 g1 c0 c1 n z = 0 := by
  suffices h : ∀ d : Nat, reachS g0 g1 c0 c1 n z = reachS g0 g1 c0 c1 n (z + (d : Int)) by
    rw [h ((highT g0 g1 n - z + 1).toNat), reach_high]
    omega
  intro d
  induction d with
  | zero => simp
  | succ d ih =>
    rw [ih, reach_step, hz _ (by omega), show z + ((d + 1 : Nat) : Int) = z + (d : Int) + 1 from by omega]; rfl
end
end Go.Proofs.YtenpkmgbaajeeaaGreat

/- Whether a code of scores is valid: the program and the reference. -/
namespace Go.Proofs.YtenpkmgbaajeeaaGreat
open Go.RowKit
set_option linter.unusedVariables false

def ckS (v : Bool) : Int := if v = true then 0 else 70
theorem scC_0 (u b : Int) (A : Option Addr) (n c : Nat) (k : List UInt8) : (scC u b A n c k)[0]? = some (.int .i64 u) := rfl
theorem scC_1 (u b : Int) (A : Option Addr) (n c : Nat) (k : List UInt8) : (scC u b A n c k)[1]? = some (.int .i64 b) := rfl
theorem scC_2 (u b : Int) (A : Option Addr) (n c : Nat) (k : List UInt8) : (scC u b A n c k)[2]? = some (.slice A n c) := rfl
theorem scC_0a (u b : Int) (A : Option Addr) (n c : Nat) (k : List UInt8) : (scC u b A n c k).toArray[0]? = some (.int .i64 u) := rfl
theorem scC_1a (u b : Int) (A : Option Addr) (n c : Nat) (k : List UInt8) : (scC u b A n c k).toArray[1]? = some (.int .i64 b) := rfl
theorem scC_2a (u b : Int) (A : Option Addr) (n c : Nat) (k : List UInt8) : (scC u b A n c k).toArray[2]? = some (.slice A n c) := rfl
theorem scC_info (u b : Int) (A : Option Addr) (n c : Nat) (k : List UInt8) (h : k.length = 16) : (Tryz.prog.info? 46).map (·.size) = some (scC u b A n c k).toArray.size := by
  rw [show (Tryz.prog.info? 46).map (·.size) = some 19 from by kernel_rfl]
  simp [scC, cellsB, h]
attribute [local go_sem] scC_0 scC_1 scC_2 scC_0a scC_1a scC_2a

set_option maxHeartbeats 2000000 in
set_option maxRecDepth 100000 in
theorem CheckScores_any (u b : Int) (A : Option Addr) (c : Nat) (l : List Int) (k : List UInt8) (w : World) {n : Nat} (hn : l.length = n) (h : IR w A c l) :
    Calls Tryz.prog 99 #[.agg (scC u b A n c k).toArray] w fun e w' => e = .returned (.int .i64 (ckS (scoresB u b l))) ∧ Below w.heap.size w w' := by
  have hlen : (n : Int) ≤ 140737488351232 := by have := h.len; omega
  have HN := Lib.hid hn
  have H := Lib.hid h
  have hNo : ∀ {p : Prop}, ¬ (1 ≤ u ∧ u ≤ 64 ∧ 2 ≤ b ∧ b ≤ 32 ∧ 1 ≤ n ∧ n ≤ 64) → scoresB u b l = false := fun h => scoresB_no (by rw [hn]; exact h)
  have hYes : (1 ≤ u ∧ u ≤ 64 ∧ 2 ≤ b ∧ b ≤ 32 ∧ 1 ≤ n ∧ n ≤ 64) → scoresB u b l = biasB b l := fun h => scoresB_bias (by rw [hn]; exact h)
  rcases scores_ways u b n with h1 | h1 | h1 | h1 | h1 | h1 | h1
  · have HS : Hid (scoresB u b l = false) := hNo (p := True) (by omega)
    have t1 : decide (u < 1) = true := by simp; omega
    clear hn h hNo hYes h1
    go_enter Tryz.func99, Tryz.ntmps99
    go_wp2_with fail
    go_ret
    exact ⟨by rw [HS.out]; rfl, alloc_bel _ _⟩
  · have HS : Hid (scoresB u b l = false) := hNo (p := True) (by omega)
    have t1 : decide (u < 1) = false := by simp; omega
    have t2 : decide (64 < u) = true := by simp; omega
    clear hn h hNo hYes h1
    go_enter Tryz.func99, Tryz.ntmps99
    go_wp2_with fail
    go_ret
    exact ⟨by rw [HS.out]; rfl, alloc_bel _ _⟩
  · have HS : Hid (scoresB u b l = false) := hNo (p := True) (by omega)
    have t1 : decide (u < 1) = false := by simp; omega
    have t2 : decide (64 < u) = false := by simp; omega
    have t3 : decide (b < 2) = true := by simp; omega
    clear hn h hNo hYes h1
    go_enter Tryz.func99, Tryz.ntmps99
    go_wp2_with fail
    go_ret
    exact ⟨by rw [HS.out]; rfl, alloc_bel _ _⟩
  · have HS : Hid (scoresB u b l = false) := hNo (p := True) (by omega)
    have t1 : decide (u < 1) = false := by simp; omega
    have t2 : decide (64 < u) = false := by simp; omega
    have t3 : decide (b < 2) = false := by simp; omega
    have t4 : decide (32 < b) = true := by simp; omega
    clear hn h hNo hYes h1
    go_enter Tryz.func99, Tryz.ntmps99
    go_wp2_with fail
    go_ret
    exact ⟨by rw [HS.out]; rfl, alloc_bel _ _⟩
  · have HS : Hid (scoresB u b l = false) := hNo (p := True) (by omega)
    have t1 : decide (u < 1) = false := by simp; omega
    have t2 : decide (64 < u) = false := by simp; omega
    have t3 : decide (b < 2) = false := by simp; omega
    have t4 : decide (32 < b) = false := by simp; omega
    have t5 : decide ((n : Int) < 1) = true := by simp; omega
    have t5' : decide (n < 1) = true := by simp; omega
    have t5'' : (n : Int) = 0 := by omega
    clear hn h hNo hYes h1
    go_enter Tryz.func99, Tryz.ntmps99
    go_wp2_with fail
    go_ret
    exact ⟨by rw [HS.out]; rfl, alloc_bel _ _⟩
  · have HS : Hid (scoresB u b l = false) := hNo (p := True) (by omega)
    have t1 : decide (u < 1) = false := by simp; omega
    have t2 : decide (64 < u) = false := by simp; omega
    have t3 : decide (b < 2) = false := by simp; omega
    have t4 : decide (32 < b) = false := by simp; omega
    have t5 : decide ((n : Int) < 1) = false := by simp; omega
    have t5' : decide (n < 1) = false := by simp; omega
    have t6 : decide ((64 : Int) < n) = true := by simp; omega
    have t6' : decide (64 < n) = true := by simp; omega
    clear hn h hNo hYes h1
    go_enter Tryz.func99, Tryz.ntmps99
    go_wp2_with fail
    go_ret
    exact ⟨by rw [HS.out]; rfl, alloc_bel _ _⟩
  · have HS : Hid (scoresB u b l = biasB b l) := hYes h1
    have t1 : decide (u < 1) = false := by simp; omega
    have t2 : decide (64 < u) = false := by simp; omega
    have t3 : decide (b < 2) = false := by simp; omega
    have t4 : decide (32 < b) = false := by simp; omega
    have t5 : decide ((n : Int) < 1) = false := by simp; omega
    have t5' : decide (n < 1) = false := by simp; omega
    have t6 : decide ((64 : Int) < n) = false := by simp; omega
    have t6' : decide (64 < n) = false := by simp; omega
    have hb32 : b ≤ 32 := h1.2.2.2.1
    have hnn : (n : Int) ≤ 64 := by omega
    clear hn h hNo hYes h1
    go_enter Tryz.func99, Tryz.ntmps99
    go_wp2_with fail
    go_loopw [38] (fun vk wr => ∃ k : Nat, k ≤ n ∧ vk = .int .i64 k ∧ Hid (∀ j, j < k → 1 ≤ it l j ∧ it l j < b) ∧ wr.cell? ⟨w.heap.size, 1, none⟩ = some (.int .i64 b) ∧ wr.cell? ⟨w.heap.size, 2, none⟩ = some (.slice A n c) ∧ Below w.heap.size w wr) (fun vk _ => n - (intOf vk).toNat)
    case atStart => exact ⟨0, by omega, rfl, fun j hj => absurd hj (by omega), (Blk.new w 46 (scC u b A n c k).toArray).cell 1, (Blk.new w 46 (scC u b A n c k).toArray).cell 2, alloc_bel _ _⟩
    case round =>
      obtain ⟨k, hk, rfl, HK, hc1, hc2, hbel⟩ := hrel
      by_cases hkn : k < n
      · obtain ⟨bb, off, rfl, hbb, hc⟩ := (H.out.below hbel).at_ (i := k) (by have := HN.out; omega)
        have hki : (k : Int) < n := by omega
        have hkl : k < l.length := by have := HN.out; omega
        have hbd := H.out.bd hkl
        have hno : ∀ hh : it l k < 1 ∨ b ≤ it l k, biasB b l = false := fun hh => biasB_no hkl hh
        have HK2 : 1 ≤ it l k ∧ it l k < b → Hid (∀ j, j < k + 1 → 1 ≤ it l j ∧ it l j < b) := fun hh j hj => by
          rcases Nat.lt_or_ge j k with h' | h'
          · exact HK.out j h'
          · rw [show j = k from by omega]; exact hh
        clear hkl
        generalize it l k = x at *
        have hw : x < 1 ∨ (1 ≤ x ∧ b ≤ x) ∨ (1 ≤ x ∧ x < b) := by omega
        rcases hw with h2 | h2 | h2
        · have s1 : decide (x < 1) = true := by simp; omega
          have HF := Lib.hid (hno (by omega))
          clear hno HK2 h2
          go_wp2_with fail
          go_ret
          exact ⟨by rw [HS.out, HF.out]; rfl, hbel⟩
        · have s1 : decide (x < 1) = false := by simp; omega
          have s2 : decide (b ≤ x) = true := by simp; omega
          have HF := Lib.hid (hno (by omega))
          clear hno HK2 h2
          go_wp2_with fail
          go_ret
          exact ⟨by rw [HS.out, HF.out]; rfl, hbel⟩
        · have s1 : decide (x < 1) = false := by simp; omega
          have s2 : decide (b ≤ x) = false := by simp; omega
          have HT := HK2 h2
          clear hno HK2 h2
          go_wp2_with fail
          go_roundw
          case rel => exact ⟨k + 1, by omega, by go_num, HT, hc1, hc2, hbel⟩
          case measure => simp [intOf]; omega
      · have HT : Hid (biasB b l = true) := biasB_iff.2 fun i hi => HK.out i (by have := HN.out; omega)
        go_wp2_with fail
        go_ret
        exact ⟨by rw [HS.out, HT.out]; rfl, hbel⟩

set_option maxHeartbeats 2000000 in
set_option maxRecDepth 100000 in
theorem refValidScores_any (u b : Int) (A : Option Addr) (c : Nat) (l : List Int) (k : List UInt8) (w : World) {n : Nat} (hn : l.length = n) (h : IR w A c l) :
    Calls Tryz.prog 46 #[.agg (scC u b A n c k).toArray] w fun e w' => e = .returned (.bool (scoresB u b l)) ∧ Below w.heap.size w w' := by
  have hlen : (n : Int) ≤ 140737488351232 := by have := h.len; omega
  have HN := Lib.hid hn
  have H := Lib.hid h
  have hNo : ∀ {p : Prop}, ¬ (1 ≤ u ∧ u ≤ 64 ∧ 2 ≤ b ∧ b ≤ 32 ∧ 1 ≤ n ∧ n ≤ 64) → scoresB u b l = false := fun h => scoresB_no (by rw [hn]; exact h)
  have hYes : (1 ≤ u ∧ u ≤ 64 ∧ 2 ≤ b ∧ b ≤ 32 ∧ 1 ≤ n ∧ n ≤ 64) → scoresB u b l = biasB b l := fun h => scoresB_bias (by rw [hn]; exact h)
  rcases scores_ways u b n with h1 | h1 | h1 | h1 | h1 | h1 | h1
  · have HS : Hid (scoresB u b l = false) := hNo (p := True) (by omega)
    have t1 : decide (u < 1) = true := by simp; omega
    clear hn h hNo hYes h1
    go_enter Tryz.func46, Tryz.ntmps46
    go_wp2_with fail
    go_ret
    exact ⟨by rw [HS.out]; rfl, alloc_bel _ _⟩
  · have HS : Hid (scoresB u b l = false) := hNo (p := True) (by omega)
    have t1 : decide (u < 1) = false := by simp; omega
    have t2 : decide (64 < u) = true := by simp; omega
    clear hn h hNo hYes h1
    go_enter Tryz.func46, Tryz.ntmps46
    go_wp2_with fail
    go_ret
    exact ⟨by rw [HS.out]; rfl, alloc_bel _ _⟩
  · have HS : Hid (scoresB u b l = false) := hNo (p := True) (by omega)
    have t1 : decide (u < 1) = false := by simp; omega
    have t2 : decide (64 < u) = false := by simp; omega
    have t3 : decide (b < 2) = true := by simp; omega
    clear hn h hNo hYes h1
    go_enter Tryz.func46, Tryz.ntmps46
    go_wp2_with fail
    go_ret
    exact ⟨by rw [HS.out]; rfl, alloc_bel _ _⟩
  · have HS : Hid (scoresB u b l = false) := hNo (p := True) (by omega)
    have t1 : decide (u < 1) = false := by simp; omega
    have t2 : decide (64 < u) = false := by simp; omega
    have t3 : decide (b < 2) = false := by simp; omega
    have t4 : decide (32 < b) = true := by simp; omega
    clear hn h hNo hYes h1
    go_enter Tryz.func46, Tryz.ntmps46
    go_wp2_with fail
    go_ret
    exact ⟨by rw [HS.out]; rfl, alloc_bel _ _⟩
  · have HS : Hid (scoresB u b l = false) := hNo (p := True) (by omega)
    have t1 : decide (u < 1) = false := by simp; omega
    have t2 : decide (64 < u) = false := by simp; omega
    have t3 : decide (b < 2) = false := by simp; omega
    have t4 : decide (32 < b) = false := by simp; omega
    have t5 : decide ((n : Int) < 1) = true := by simp; omega
    have t5' : decide (n < 1) = true := by simp; omega
    have t5'' : (n : Int) = 0 := by omega
    clear hn h hNo hYes h1
    go_enter Tryz.func46, Tryz.ntmps46
    go_wp2_with fail
    go_ret
    exact ⟨by rw [HS.out]; rfl, alloc_bel _ _⟩
  · have HS : Hid (scoresB u b l = false) := hNo (p := True) (by omega)
    have t1 : decide (u < 1) = false := by simp; omega
    have t2 : decide (64 < u) = false := by simp; omega
    have t3 : decide (b < 2) = false := by simp; omega
    have t4 : decide (32 < b) = false := by simp; omega
    have t5 : decide ((n : Int) < 1) = false := by simp; omega
    have t5' : decide (n < 1) = false := by simp; omega
    have t6 : decide ((64 : Int) < n) = true := by simp; omega
    have t6' : decide (64 < n) = true := by simp; omega
    clear hn h hNo hYes h1
    go_enter Tryz.func46, Tryz.ntmps46
    go_wp2_with fail
    go_ret
    exact ⟨by rw [HS.out]; rfl, alloc_bel _ _⟩
  · have HS : Hid (scoresB u b l = biasB b l) := hYes h1
    have t1 : decide (u < 1) = false := by simp; omega
    have t2 : decide (64 < u) = false := by simp; omega
    have t3 : decide (b < 2) = false := by simp; omega
    have t4 : decide (32 < b) = false := by simp; omega
    have t5 : decide ((n : Int) < 1) = false := by simp; omega
    have t5' : decide (n < 1) = false := by simp; omega
    have t6 : decide ((64 : Int) < n) = false := by simp; omega
    have t6' : decide (64 < n) = false := by simp; omega
    have hb32 : b ≤ 32 := h1.2.2.2.1
    have hnn : (n : Int) ≤ 64 := by omega
    clear hn h hNo hYes h1
    go_enter Tryz.func46, Tryz.ntmps46
    go_wp2_with fail
    go_loopw [3] (fun vk wr => ∃ k : Nat, k ≤ n ∧ vk = .int .i64 k ∧ Hid (∀ j, j < k → 1 ≤ it l j ∧ it l j < b) ∧ wr.cell? ⟨w.heap.size, 1, none⟩ = some (.int .i64 b) ∧ wr.cell? ⟨w.heap.size, 2, none⟩ = some (.slice A n c) ∧ Below w.heap.size w wr) (fun vk _ => n - (intOf vk).toNat)
    case atStart => exact ⟨0, by omega, rfl, fun j hj => absurd hj (by omega), (Blk.new w 46 (scC u b A n c k).toArray).cell 1, (Blk.new w 46 (scC u b A n c k).toArray).cell 2, alloc_bel _ _⟩
    case round =>
      obtain ⟨k, hk, rfl, HK, hc1, hc2, hbel⟩ := hrel
      by_cases hkn : k < n
      · obtain ⟨bb, off, rfl, hbb, hc⟩ := (H.out.below hbel).at_ (i := k) (by have := HN.out; omega)
        have hki : (k : Int) < n := by omega
        have hkl : k < l.length := by have := HN.out; omega
        have hbd := H.out.bd hkl
        have hno : ∀ hh : it l k < 1 ∨ b ≤ it l k, biasB b l = false := fun hh => biasB_no hkl hh
        have HK2 : 1 ≤ it l k ∧ it l k < b → Hid (∀ j, j < k + 1 → 1 ≤ it l j ∧ it l j < b) := fun hh j hj => by
          rcases Nat.lt_or_ge j k with h' | h'
          · exact HK.out j h'
          · rw [show j = k from by omega]; exact hh
        clear hkl
        generalize it l k = x at *
        have hw : x < 1 ∨ (1 ≤ x ∧ b ≤ x) ∨ (1 ≤ x ∧ x < b) := by omega
        rcases hw with h2 | h2 | h2
        · have s1 : decide (x < 1) = true := by simp; omega
          have HF := Lib.hid (hno (by omega))
          clear hno HK2 h2
          go_wp2_with fail
          go_quiet (fail)
          go_wp2_with fail
          go_ret
          exact ⟨by rw [HS.out, HF.out]; rfl, below_drewN hbel _⟩
        · have s1 : decide (x < 1) = false := by simp; omega
          have s2 : decide (b ≤ x) = true := by simp; omega
          have HF := Lib.hid (hno (by omega))
          clear hno HK2 h2
          go_wp2_with fail
          go_quiet (fail)
          go_wp2_with fail
          go_ret
          exact ⟨by rw [HS.out, HF.out]; rfl, below_drewN hbel _⟩
        · have s1 : decide (x < 1) = false := by simp; omega
          have s2 : decide (b ≤ x) = false := by simp; omega
          have HT := HK2 h2
          clear hno HK2 h2
          go_wp2_with fail
          go_quiet (fail)
          go_wp2_with fail
          go_roundw
          case rel => exact ⟨k + 1, by omega, by go_num, HT, hc1, hc2, below_drewN hbel _⟩
          case measure => simp [intOf]; omega
      · have HT : Hid (biasB b l = true) := biasB_iff.2 fun i hi => HK.out i (by have := HN.out; omega)
        go_wp2_with fail
        go_ret
        exact ⟨by rw [HS.out, HT.out]; rfl, hbel⟩

end Go.Proofs.YtenpkmgbaajeeaaGreat

/- The word of a user of a code of scores: the program. -/
namespace Go.Proofs.YtenpkmgbaajeeaaGreat
open Go.RowKit
set_option linter.unusedVariables false

theorem scC_k (u b : Int) (A : Option Addr) (n c : Nat) (k : List UInt8) (j : Nat) : (scC u b A n c k)[j + 3]? = (cellsB k)[j]? := rfl
theorem scC_ka (u b : Int) (A : Option Addr) (n c : Nat) (k : List UInt8) (j : Nat) : (scC u b A n c k).toArray[j + 3]? = (cellsB k)[j]? := by simp [scC]
attribute [local go_sem] scC_0 scC_1 scC_2 scC_0a scC_1a scC_2a scC_k scC_ka run_storeCells_new

/-- The word after i places. -/
def swP (d : List UInt8) (b : Int) (l : List Int) (i : Nat) : List UInt8 := (List.range l.length).map fun j => if j < i ∧ (numS d (UInt64.ofNat j) (UInt64.ofNat b.toNat)).toNat < (it l j).toNat then 1 else 0
theorem swP_length (d : List UInt8) (b : Int) (l : List Int) (i : Nat) : (swP d b l i).length = l.length := by simp [swP]
theorem swP_zero (d : List UInt8) (b : Int) (l : List Int) : swP d b l 0 = List.replicate l.length 0 := by
  refine List.ext_getElem (by simp [swP]) fun i h1 h2 => ?_
  simp [swP]
theorem swP_fin (k : List UInt8) (b : Int) (l : List Int) (u : Int) : swP (derS k 70 (UInt64.ofNat u.toNat)) b l l.length = scoreWordS k b l u := by
  refine List.ext_getElem (by simp [swP, scoreWordS]) fun i h1 h2 => ?_
  have : i < l.length := by simpa [swP] using h1
  simp [swP, scoreWordS, this]
theorem swP_yes {d : List UInt8} {b : Int} {l : List Int} {i : Nat} (hi : i < l.length) (h : (numS d (UInt64.ofNat i) (UInt64.ofNat b.toNat)).toNat < (it l i).toNat) : (swP d b l i).set i 1 = swP d b l (i + 1) := by
  refine List.ext_getElem (by simp [swP]) fun j h1 h2 => ?_
  simp only [swP, List.getElem_set, List.getElem_map, List.getElem_range]
  by_cases e : i = j
  · subst e; simp [h]
  · rw [if_neg e]
    have : (j < i) ↔ (j < i + 1) := by omega
    simp [this]
theorem swP_no {d : List UInt8} {b : Int} {l : List Int} {i : Nat} (h : ¬ (numS d (UInt64.ofNat i) (UInt64.ofNat b.toNat)).toNat < (it l i).toNat) : swP d b l i = swP d b l (i + 1) := by
  refine List.ext_getElem (by simp [swP]) fun j h1 h2 => ?_
  simp only [swP, List.getElem_map, List.getElem_range]
  by_cases e : j = i
  · subst e; simp [h]
  · have : (j < i) ↔ (j < i + 1) := by omega
    simp [this]
set_option maxHeartbeats 2000000 in
set_option maxRecDepth 100000 in
theorem scoreWord_any (u b : Int) (A : Option Addr) (c : Nat) (l : List Int) (k : List UInt8) (x : Int) (w : World) {n : Nat} (hn : l.length = n) (h : IR w A c l) (hk : k.length = 16) (hok : scoresB u b l = true) (hx0 : 0 ≤ x) (hx1 : x ≤ 64) :
    Calls Tryz.prog 88 #[.agg (scC u b A n c k).toArray, .int .i64 x] w fun e w' => ∃ A' c', e = .returned (.slice A' n c') ∧ OB w.heap.size w' A' c' (scoreWordS k b l x) ∧ Below w.heap.size w w' := by
  obtain ⟨⟨o1, o2, o3, o4, o5, o6⟩, o7⟩ := scoresB_parts hok
  have hnn : (n : Int) ≤ 64 := by omega
  have hn0 : (0 : Int) ≤ n := by omega
  have HN := Lib.hid hn
  have H := Lib.hid h
  have HK := Lib.hid hk
  have HO := Lib.hid o7
  have hkl : (cellsB k).length = 16 := by rw [cellsB_length, hk]
  have HD : Hid (∀ W, Calls Tryz.prog 120 #[.agg (cellsB k).toArray, .int .u8 70, .int .u64 x] W fun e w' => e = .returned (.agg (cellsB (derS k 70 (UInt64.ofNat x.toNat))).toArray) ∧ Below W.heap.size W w') := fun W => by
    have := Derive_any k 70 (UInt64.ofNat x.toNat) W hk
    rw [ofNat_toNat_int hx0 (by omega)] at this
    exact this
  have HF := Lib.hid (swP_fin k b l x)
  obtain ⟨d, hd⟩ : ∃ d, derS k 70 (UInt64.ofNat x.toNat) = d := ⟨_, rfl⟩
  have hdl : d.length = 16 := by rw [← hd]; rfl
  rw [hd] at HD HF
  have HDL := Lib.hid hdl
  have hdc : (cellsB d).length = 16 := by rw [cellsB_length, hdl]
  have hall := all16 d
  have hmk := run_make_row' (P := Tryz.prog) 30 5 (.int .u8 0) 1 Tryz.underlying30 (by kernel_rfl) rfl .i64 .i64 n (by omega) (by omega)
  have HMB := Lib.hid (made_bytes n)
  clear hn h hk hok o7 hd hdl o5 o6
  go_enter Tryz.func88, Tryz.ntmps88
  go_wp2_with (go_at_call 120; rw [fold16B k HK.out]; refine (HD.out _).mono ?_; rintro e w1 ⟨rfl, hb1⟩; have hc2 : ∀ o, (w1.alloc o).cell? ⟨w.heap.size, 2, none⟩ = some (.slice A n c) := fun o => (((Blk.new w 46 (scC u b A n c k).toArray).below' hb1).alloc o).cell 2; have hc2' : ∀ o o', ((w1.alloc o).alloc o').cell? ⟨w.heap.size, 2, none⟩ = some (.slice A n c) := fun o o' => ((((Blk.new w 46 (scC u b A n c k).toArray).below' hb1).alloc o).alloc o').cell 2)
  rw [HMB.out]
  have b01 : Below w.heap.size w w1 := (alloc_bel w _).trans (hb1.mono (alloc_bel w (.cells (scC u b A n c k).toArray 46)).size)
  have s01 : w.heap.size < w1.heap.size := by have := hb1.size; simp at this; omega
  have bS : Blk w1 w.heap.size 46 (scC u b A n c k).toArray := (Blk.new w _ _).below' hb1
  go_loopw [21] (fun vk wr => ∃ i : Nat, i ≤ n ∧ vk = .int .i64 (i : Int) ∧ Blk wr w.heap.size 46 (scC u b A n c k).toArray ∧ Blk wr w1.heap.size 23 (cellsB d).toArray ∧ Hid (Blk wr (w1.heap.size + 1) 5 (cellsB (swP d b l i)).toArray) ∧ Below w.heap.size w wr) (fun vk _ => n - (intOf vk).toNat)
  case atStart => exact ⟨0, by omega, rfl, (bS.alloc _).alloc _, blk_b0 _ _ _ _, by rw [swP_zero, HN.out]; exact blk_b1 _ _ _ _, b01.trans ((alloc2_bel w1 _ _).mono b01.size)⟩
  case round =>
    obtain ⟨i, hi, rfl, hB1, hB2, HB3, hbel⟩ := hrel
    by_cases hin : i < n
    · have hil : i < l.length := by have := HN.out; omega
      obtain ⟨bb, off, rfl, hbb, hc⟩ := (H.out.below hbel).at_ (i := i) hil
      have hii : (i : Int) < n := by omega
      have hbo := HO.out i hil
      have hb32 : (b : Int) ≤ 32 := o4
      have hc1 := hB1.cell 1
      have HNum : Hid (∀ W, Calls Tryz.prog 121 #[.agg (cellsB d).toArray, .int .u64 (i : Int), .int .u64 b] W fun e w' => e = .returned (.int .u64 ((numS d (UInt64.ofNat i) (UInt64.ofNat b.toNat)).toNat : Int)) ∧ Below W.heap.size W w') := fun W => by
        have h1 := Number_any d (UInt64.ofNat i) (UInt64.ofNat b.toNat) W HDL.out
        rw [ofNat_toNat_int (x := b) (by omega) (by omega)] at h1
        have h2 := ofNat_toNat_int (x := (i : Int)) (by omega) (by omega)
        rw [Int.toNat_natCast] at h2
        rw [h2] at h1
        exact h1
      have hyes := fun hh => swP_yes (d := d) (b := b) hil hh
      have hno := fun hh => swP_no (d := d) (b := b) (l := l) (i := i) hh
      obtain ⟨m, hm⟩ : ∃ m, (numS d (UInt64.ofNat i) (UInt64.ofNat b.toNat)).toNat = m := ⟨_, rfl⟩
      rw [hm] at HNum hyes hno
      have hmi : (m : Int) ≤ 18446744073709551615 := by rw [← hm]; exact u64_bd _
      have HB1 := Lib.hid hB1
      have HB2 := Lib.hid hB2
      have hd3 := HB3.out.cell i
      rw [bytes_get _ i (by rw [swP_length]; exact hil)] at hd3
      have hf3 := HB3.out.frozen i
      have HIL := Lib.hid hil
      generalize it l i = a at *
      clear hm hil
      rcases Int.lt_or_le (m : Int) a with hlt | hlt
      · have HS := Lib.hid (hyes (by omega))
        have t1 : decide ((m : Int) < a) = true := by simp; omega
        clear hyes hno hlt
        have ha1 : 1 ≤ a := hbo.1
        have ha2 : a < b := hbo.2
        clear hd3 hf3
        go_wp2_with (first
          | (refine wpList_load_row rfl 23 (.tmp 5) rfl w1.heap.size rfl 23 (cellsB d).toArray (0, 0) _ HB2.out under_key rfl (cellsB_size _ HDL.out) ?_)
          | (go_at_call 121; refine (HNum.out _).mono ?_; rintro e w2 ⟨rfl, hb2⟩; have hB3 := HB3.out.below' hb2; have hd3 := hB3.cell i; rw [bytes_get _ i (by rw [swP_length]; exact HIL.out)] at hd3; have hf3 := hB3.frozen i; have HB3' := Lib.hid hB3; clear hB3))
        have hB4 := HB3'.out.set_ i (.int .u8 ((1 : UInt8).toNat : Int))
        rw [bytes_set, HS.out] at hB4
        have hbF := (hbel.trans (hb2.mono hbel.size)).setCell (p := ⟨w1.heap.size + 1, i, none⟩) (by simp; omega) (.int .u8 ((1 : UInt8).toNat : Int))
        go_roundw
        case rel => exact ⟨i + 1, by omega, by go_num, (HB1.out.below' hb2).far (p := ⟨w1.heap.size + 1, i, none⟩) (by simp; omega) _, (HB2.out.below' hb2).far (p := ⟨w1.heap.size + 1, i, none⟩) (by simp) _, hB4, hbF⟩
        case measure => simp [intOf]; omega
      · have HS := Lib.hid (hno (by omega))
        have t1 : decide ((m : Int) < a) = false := by simp; omega
        clear hyes hno hlt
        have ha1 : 1 ≤ a := hbo.1
        have ha2 : a < b := hbo.2
        clear hd3 hf3
        go_wp2_with (first
          | (refine wpList_load_row rfl 23 (.tmp 5) rfl w1.heap.size rfl 23 (cellsB d).toArray (0, 0) _ HB2.out under_key rfl (cellsB_size _ HDL.out) ?_)
          | (go_at_call 121; refine (HNum.out _).mono ?_; rintro e w2 ⟨rfl, hb2⟩))
        have hbF := hbel.trans (hb2.mono hbel.size)
        go_roundw
        case rel => exact ⟨i + 1, by omega, by go_num, HB1.out.below' hb2, HB2.out.below' hb2, by rw [← HS.out]; exact HB3.out.below' hb2, hbF⟩
        case measure => simp [intOf]; omega
    · obtain rfl : i = n := by omega
      have HB5 : Hid (Blk wr (w1.heap.size + 1) 5 (cellsB (scoreWordS k b l x)).toArray) := by
        have h1 := HB3.out
        have h2 := HF.out
        rw [HN.out] at h2
        rw [h2] at h1
        exact h1
      have HSL := Lib.hid (scoreWordS_length k b l x)
      clear hB1 hB2
      go_wp2_with fail
      go_ret
      exact ⟨_, _, rfl, HB5.out.ob (by omega) (by rw [HSL.out, HN.out]) rfl (by omega), hbel⟩
end Go.Proofs.YtenpkmgbaajeeaaGreat
