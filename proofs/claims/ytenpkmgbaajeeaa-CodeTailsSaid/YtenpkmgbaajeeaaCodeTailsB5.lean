/-
  Lemmas and contracts, joined: part 5.
-/
import Derived.SizedLaws
import Derived.Deep.Slices
import Derived.Laws.Rows
import Derived.Laws.IdiomStrings
import Derived.Stop.BytesEq
import Derived.Deep.WholeRow
import Derived.Deep.MidRow
import Derived.Deep.RegionHeld3
import Derived.Test.YtenpkmgbaajeeaaCodeTailsB4
set_option linter.unusedSimpArgs false
set_option linter.unusedVariables false
set_option linter.unnecessarySimpa false
/- What the frames of the laws share: bytes, keys, integers, and rows of these among the arguments, opened. -/
namespace Go.Proofs.Ytenpkmgbaajeeaa
open Go.ChangeShapes Go.WideShapes Go.ChangeAt Go.RowKit Go.Deep
set_option linter.unusedVariables false

theorem weights_of_ {H : Type} {P : Program} {ts : List TypeId} {ds : List (DataW H)} (h : (DataW.weightsEach P ts ds).all (· ≤ reachBytes) = true) {j : Nat} {t : TypeId} {d : DataW H} (ht : ts[j]? = some t) (hd : ds[j]? = some d) :
    ∀ n ∈ d.weights P t, n ≤ reachBytes := fun n hn => by
  simpa using List.all_eq_true.1 h _ (DataW.weights_mem_each ht hd n hn)
theorem weights_all_mem {H : Type} {P : Program} {e : TypeId} {l : List (DataW H)} {d : DataW H} (hd : d ∈ l) {n : Nat} (hn : n ∈ d.weights P e) : n ∈ DataW.weightsAll P e l := by
  induction l with
  | nil => cases hd
  | cons x l ih =>
    rcases List.mem_cons.1 hd with rfl | h
    · exact List.mem_append.2 (.inl hn)
    · exact List.mem_append.2 (.inr (ih h))

/-- A slice that came in, element by element. -/
theorem slice_of_trod {H : Type} {enc : TypeId × Value → H} {P : Program} {W : World} {fuel : Nat} {t e : TypeId} {cs : List Value} {x : DataW H × List MemPlace} {s by_ : Nat} (ht : P.underlying t = some (.slice e)) (hs : P.cellsOf e = s) (hs0 : 0 < s) (hby : P.bytesOf e = by_) (h : DataW.trod enc P W 0 (fun _ => true) true fuel t cs = some x)
    (hw : ∀ n ∈ x.1.weights P t, n ≤ reachBytes) :
    ∃ (A : Option Addr) (len cap m : Nat) (C : Nat → List Value) (D : Nat → DataW H × List MemPlace), cs = [.slice A len cap] ∧ len ≤ cap ∧ cap ≤ 9223372036854775807 ∧ cap * by_ ≤ 140737488351232 ∧
      (len ≠ 0 → ∃ b off, A = some ⟨b, off, none⟩ ∧ b < W.heap.size ∧ ∀ i, i < len → ∀ j v, (C i)[j]? = some v → W.cell? ⟨b, off + (i * s + j), none⟩ = some v) ∧
      ∀ i, i < len → (C i).length = s ∧ DataW.trod enc P W 0 (fun _ => true) true m e (C i) = some (D i) ∧ ∀ n ∈ (D i).1.weights P e, n ≤ reachBytes := by
  rcases open_slice ht h with ⟨rfl, rfl⟩ | ⟨a, len, cap, m, n, D, Pl, rfl, _, hle, hm, hmm, rfl, hx⟩
  · exact ⟨none, 0, 0, 0, fun _ => [], fun _ => (.nil, []), rfl, Nat.le_refl _, by omega, by omega, fun h => absurd rfl h, fun i hi => absurd hi (by omega)⟩
  · simp only [if_true] at hmm
    subst hmm
    have hcap : m * by_ ≤ 140737488351232 := by
      have := hw ((len + (m - len)) * by_) (by simp [DataW.weights, ht, hby])
      simp only [reachBytes] at this
      rw [show len + (m - len) = m from by omega] at this
      exact this
    obtain ⟨C, hC⟩ := choose_lt (α := List Value) (p := fun i cs' => W.cells? 0 (a.add (i * P.cellsOf e)) (P.cellsOf e) = some cs' ∧ DataW.trod enc P W 0 (fun _ => true) true n e cs' = some (D i, Pl i)) (fun i hi => hx i hi)
    refine ⟨some a, len, m, n, C, fun i => (D i, Pl i), rfl, hle, by simpa [maxLen] using hm, hcap, fun h0 => ?_, fun i hi => ?_⟩
    · have h0' := hC 0 (by omega)
      obtain ⟨_, hl0, hc0⟩ := World.cells?_some h0'.1
      rw [hs] at hl0 hc0
      have hc00 := hc0 0 hs0
      rw [Nat.zero_mul, add_add, List.getElem?_eq_getElem (show 0 < (C 0).length by omega)] at hc00
      obtain ⟨b, off, spot⟩ := a
      have hspot : spot = none := by simpa [Addr.add] using World.cell?_spot hc00
      subst hspot
      refine ⟨b, off, rfl, by have := World.block_lt_of_cell? W _ hc00; simpa [Addr.add] using this, fun i hi j v hv => ?_⟩
      obtain ⟨_, hl, hc⟩ := World.cells?_some (hC i (by omega)).1
      rw [hs] at hl hc
      have hj : j < (C i).length := by
        rcases Nat.lt_or_ge j (C i).length with h' | h'
        · exact h'
        · rw [List.getElem?_eq_none h'] at hv; cases hv
      have := hc j (by omega)
      rw [add_add, Addr.add_lit, hv] at this
      exact this
    · obtain ⟨h1, h2⟩ := hC i (by omega)
      obtain ⟨_, hl, _⟩ := World.cells?_some h1
      refine ⟨by rw [hl, hs], h2, fun k hk => hw k ?_⟩
      simp only [DataW.weights, ht, List.mem_cons, List.mem_append]
      exact .inr (.inl (weights_all_mem (List.mem_map.2 ⟨i, List.mem_range.2 hi, rfl⟩) hk))

/-- .. as one row of cells. -/
theorem rd_of_cells {W : World} {A : Option Addr} {len cap s by_ : Nat} {C : Nat → List Value} (hle : len ≤ cap) (hcap : cap ≤ 9223372036854775807) (hlen : len ≤ 140737488351232) (hl : ∀ i, i < len → (C i).length = s)
    (h : len ≠ 0 → ∃ b off, A = some ⟨b, off, none⟩ ∧ b < W.heap.size ∧ ∀ i, i < len → ∀ j v, (C i)[j]? = some v → W.cell? ⟨b, off + (i * s + j), none⟩ = some v) : Rd W s A cap len ((List.range len).flatMap C) := by
  have hg : ∀ n, n ≤ len → ((List.range n).flatMap C).length = n * s := by
    intro n
    induction n with
    | zero => intro _; simp
    | succ n ih =>
      intro hn
      rw [List.range_succ, List.flatMap_append, List.length_append, ih (by omega)]
      simp [hl n (by omega), Nat.succ_mul]
  have hget : ∀ n, n ≤ len → ∀ k v, ((List.range n).flatMap C)[k]? = some v → ∃ i j, i < n ∧ k = i * s + j ∧ (C i)[j]? = some v := by
    intro n
    induction n with
    | zero => intro _ k v hv; simp at hv
    | succ n ih =>
      intro hn k v hv
      rw [List.range_succ, List.flatMap_append] at hv
      rcases Nat.lt_or_ge k (n * s) with hk | hk
      · rw [List.getElem?_append_left (by rw [hg n (by omega)]; exact hk)] at hv
        obtain ⟨i, j, hi, e, hc⟩ := ih (by omega) k v hv
        exact ⟨i, j, by omega, e, hc⟩
      · rw [List.getElem?_append_right (by rw [hg n (by omega)]; exact hk), hg n (by omega)] at hv
        simp only [List.flatMap_cons, List.flatMap_nil, List.append_nil] at hv
        exact ⟨n, k - n * s, by omega, by omega, hv⟩
  refine ⟨⟨hg len (Nat.le_refl _), hle, hcap, hlen⟩, fun hn => ?_⟩
  obtain ⟨b, off, e, hb, hc⟩ := h hn
  refine ⟨b, off, e, hb, fun k v hv => ?_⟩
  obtain ⟨i, j, hi, rfl, hv'⟩ := hget len (Nat.le_refl _) k v hv
  exact hc i hi j v hv'

theorem u8_of_trod {H : Type} {enc : TypeId × Value → H} {W : World} {fuel : Nat} {cs : List Value} {x : DataW H × List MemPlace} (h : DataW.trod enc Try.prog W 0 (fun _ => true) true fuel 5 cs = some x) : ∃ u : UInt8, cs = [.int .u8 (u.toNat : Int)] := by
  obtain ⟨n, rfl, _, hwf⟩ := DataW.trod_int Try.underlying5 h
  have := bounds_u8 hwf
  refine ⟨UInt8.ofNat n.toNat, ?_⟩
  congr 2
  simp only [UInt8.toNat_ofNat']
  omega
theorem bytes_u8 : Try.prog.bytesOf 5 = 1 := by kernel_rfl
theorem cells_u8 : Try.prog.cellsOf 5 = 1 := by kernel_rfl
theorem flat_bytes (U : Nat → UInt8) (C : Nat → List Value) (n : Nat) (h : ∀ i, i < n → C i = [.int .u8 ((U i).toNat : Int)]) : (List.range n).flatMap C = cellsB ((List.range n).map U) := by
  rw [List.flatMap_def, List.map_congr_left (g := fun i => [Value.int .u8 ((U i).toNat : Int)]) (fun i hi => h i (List.mem_range.1 hi))]
  simp [cellsB]
  induction n with
  | zero => rfl
  | succ n ih => rw [List.range_succ]; simp [ih (fun i hi => h i (by omega))]

/-- Bytes. -/
theorem bytes_of_trod {H : Type} {enc : TypeId × Value → H} {W : World} {fuel : Nat} {t : TypeId} {cs : List Value} {x : DataW H × List MemPlace} (ht : Try.prog.underlying t = some (.slice 5)) (h : DataW.trod enc Try.prog W 0 (fun _ => true) true fuel t cs = some x)
    (hw : ∀ n ∈ x.1.weights Try.prog t, n ≤ reachBytes) : ∃ A c l, cs = [.slice A (List.length l) c] ∧ BR W A c l := by
  obtain ⟨A, len, cap, m, C, D, rfl, hle, hcap, hby, hcell, hel⟩ := slice_of_trod ht cells_u8 (by omega) bytes_u8 h hw
  obtain ⟨U, hU⟩ := choose_lt (α := UInt8) (p := fun i u => C i = [.int .u8 (u.toNat : Int)]) (fun i hi => u8_of_trod (hel i hi).2.1)
  have hrd := rd_of_cells (by_ := 1) hle hcap (by omega) (fun i hi => (hel i hi).1) hcell
  rw [flat_bytes U C len hU] at hrd
  refine ⟨A, cap, (List.range len).map U, by simp, ?_⟩
  unfold BR
  simpa using hrd

/-- A key. -/
def keyV (k : List UInt8) : Value := .agg (cellsB k).toArray
theorem key_of_trod {H : Type} {enc : TypeId × Value → H} {W : World} {fuel : Nat} {cs : List Value} {x : DataW H × List MemPlace} (h : DataW.trod enc Try.prog W 0 (fun _ => true) true fuel 32 cs = some x) : ∃ k : List UInt8, k.length = 16 ∧ cs = cellsB k := by
  obtain ⟨xs, m, _, _, hl, hn, hel⟩ := DataW.trod_array Try.underlying32 h
  rw [show Try.prog.cellsOf 32 = 16 from by kernel_rfl] at hl
  rw [cells_u8] at hel
  obtain ⟨U, hU⟩ := choose_lt (α := UInt8) (n := 16) (p := fun i u => (cs.drop (i * 1)).take 1 = [.int .u8 (u.toNat : Int)]) (fun i hi => by
    have h1 := hel i hi
    rw [List.getElem?_eq_getElem (by omega)] at h1
    exact u8_of_trod h1)
  refine ⟨(List.range 16).map U, by simp, ?_⟩
  refine List.ext_getElem (by simp [cellsB, hl]) fun i hi hi2 => ?_
  have h1 := hU i (by omega)
  rw [Nat.mul_one, List.drop_eq_getElem_cons hi] at h1
  simp only [List.take_succ_cons, List.take_zero, List.cons.injEq, and_true] at h1
  rw [h1]
  simp [cellsB]
/-- Integers. -/
def cellsI (l : List Int) : List Value := l.map fun x => .int .i64 x
def IR (w : World) (A : Option Addr) (c : Nat) (l : List Int) : Prop := Rd w 1 A c l.length (cellsI l) ∧ ∀ x ∈ l, -9223372036854775808 ≤ x ∧ x ≤ 9223372036854775807
theorem cells_int : Try.prog.cellsOf 3 = 1 := by kernel_rfl
theorem bytes_int : Try.prog.bytesOf 3 = 8 := by kernel_rfl
theorem int_of_trod {H : Type} {enc : TypeId × Value → H} {W : World} {fuel : Nat} {cs : List Value} {x : DataW H × List MemPlace} (h : DataW.trod enc Try.prog W 0 (fun _ => true) true fuel 3 cs = some x) : ∃ u : Int, cs = [.int .i64 u] ∧ -9223372036854775808 ≤ u ∧ u ≤ 9223372036854775807 := by
  obtain ⟨n, rfl, _, hwf⟩ := DataW.trod_int Try.underlying3 h
  have := bounds_i64 hwf
  exact ⟨n, rfl, by omega⟩
theorem flat_ints (U : Nat → Int) (C : Nat → List Value) (n : Nat) (h : ∀ i, i < n → C i = [.int .i64 (U i)]) : (List.range n).flatMap C = cellsI ((List.range n).map U) := by
  rw [List.flatMap_def, List.map_congr_left (g := fun i => [Value.int .i64 (U i)]) (fun i hi => h i (List.mem_range.1 hi))]
  simp [cellsI]
  induction n with
  | zero => rfl
  | succ n ih => rw [List.range_succ]; simp [ih (fun i hi => h i (by omega))]
theorem ints_of_trod {H : Type} {enc : TypeId × Value → H} {W : World} {fuel : Nat} {t : TypeId} {cs : List Value} {x : DataW H × List MemPlace} (ht : Try.prog.underlying t = some (.slice 3)) (h : DataW.trod enc Try.prog W 0 (fun _ => true) true fuel t cs = some x)
    (hw : ∀ n ∈ x.1.weights Try.prog t, n ≤ reachBytes) : ∃ A c l, cs = [.slice A (List.length l) c] ∧ IR W A c l ∧ c * 8 ≤ 140737488351232 := by
  obtain ⟨A, len, cap, m, C, D, rfl, hle, hcap, hby, hcell, hel⟩ := slice_of_trod ht cells_int (by omega) bytes_int h hw
  obtain ⟨U, hU⟩ := choose_lt (α := Int) (p := fun i u => C i = [.int .i64 u] ∧ -9223372036854775808 ≤ u ∧ u ≤ 9223372036854775807) (fun i hi => int_of_trod (hel i hi).2.1)
  have hrd := rd_of_cells (by_ := 8) hle hcap (by omega) (fun i hi => (hel i hi).1) hcell
  rw [flat_ints U C len (fun i hi => (hU i hi).1)] at hrd
  refine ⟨A, cap, (List.range len).map U, by simp, ⟨by simpa using hrd, fun x hx => ?_⟩, hby⟩
  obtain ⟨i, hi, rfl⟩ := List.mem_map.1 hx
  exact (hU i (List.mem_range.1 hi)).2

theorem rows_of_trod {H : Type} {enc : TypeId × Value → H} {W : World} {fuel : Nat} {cs : List Value} {x : DataW H × List MemPlace} (h : DataW.trod enc Try.prog W 0 (fun _ => true) true fuel 22 cs = some x) (hw : ∀ n ∈ x.1.weights Try.prog 22, n ≤ reachBytes) : ∃ A c rs, cs = [.slice A (List.length rs) c] ∧ RR W A c rs ∧ c * 24 ≤ 140737488351232 := by
  obtain ⟨A, len, cap, m, C, D, rfl, hle, hcap, hby, hcell, hel⟩ := slice_of_trod Try.underlying22 (by kernel_rfl : Try.prog.cellsOf 23 = 1) (by omega) (by kernel_rfl : Try.prog.bytesOf 23 = 24) h hw
  obtain ⟨U, hU⟩ := choose_lt (α := BRow) (p := fun i u => C i = [u.v] ∧ BR W u.A u.c u.l) (fun i hi => by obtain ⟨A, c, l, e, hb⟩ := bytes_of_trod Try.underlying23 (hel i hi).2.1 (hel i hi).2.2; exact ⟨⟨A, c, l⟩, e, hb⟩)
  have hrd := rd_of_cells (by_ := 24) hle hcap (by omega) (fun i hi => (hel i hi).1) hcell
  have hfl : (List.range len).flatMap C = ((List.range len).map U).map BRow.v := by
    rw [List.flatMap_def, List.map_congr_left (g := fun i => [(U i).v]) (fun i hi => (hU i (List.mem_range.1 hi)).1), ← List.flatMap_def, List.map_map]
    generalize List.range len = l; induction l with | nil => rfl | cons a l ih => simp [ih]
  rw [hfl] at hrd
  refine ⟨A, cap, (List.range len).map U, by simp, ⟨by simpa using hrd, fun r hr => ?_⟩, hby⟩
  obtain ⟨i, hi, rfl⟩ := List.mem_map.1 hr
  exact (hU i (List.mem_range.1 hi)).2


set_option maxRecDepth 100000 in
theorem slice_val {P : Program} {W : World} {b0 : Nat} {t e : TypeId} {v : Value} {A : Option Addr} {n c : Nat} (ht : P.underlying t = some (.slice e)) (hval : Value.okWide P W .any b0 t v) (h : v.cells.toList = [.slice A n c]) : v = .slice A n c := by
  obtain ⟨a, l, c', hv⟩ := okWide_slice ht hval
  subst hv
  simpa [Value.cells] using h
set_option maxRecDepth 100000 in
theorem open_bytes {H : Type} {enc : TypeId × Value → H} {W : World} {b0 : Nat} {v : Value} {d : DataW H} {ps : List MemPlace} (hval : Value.okWide Try.prog W .any b0 23 v) (hd : DataW.Trod enc Try.prog W 0 (fun _ => true) true 23 v d ps)
    (hw : ∀ n ∈ d.weights Try.prog 23, n ≤ reachBytes) : ∃ A c z, v = .slice A (List.length z) c ∧ BR W A c z := by
  obtain ⟨fuel, hf⟩ := hd
  obtain ⟨A, c, z, e, h⟩ := bytes_of_trod Try.underlying23 hf hw
  exact ⟨A, c, z, slice_val Try.underlying23 hval e, h⟩
set_option maxRecDepth 100000 in
theorem open_rows {H : Type} {enc : TypeId × Value → H} {W : World} {b0 : Nat} {v : Value} {d : DataW H} {ps : List MemPlace} (hval : Value.okWide Try.prog W .any b0 22 v) (hd : DataW.Trod enc Try.prog W 0 (fun _ => true) true 22 v d ps)
    (hw : ∀ n ∈ d.weights Try.prog 22, n ≤ reachBytes) : ∃ A c z, v = .slice A (List.length z) c ∧ RR W A c z ∧ c * 24 ≤ 140737488351232 := by
  obtain ⟨fuel, hf⟩ := hd
  obtain ⟨A, c, z, e, h, h2⟩ := rows_of_trod hf hw
  exact ⟨A, c, z, slice_val Try.underlying22 hval e, h, h2⟩
end Go.Proofs.Ytenpkmgbaajeeaa

/- In a region that draws its order: the load of a whole row, the row kept as it is. -/
namespace Go.Proofs.Ytenpkmgbaajeeaa
open Go.RowKit
set_option linter.unusedVariables false

theorem quiet_load_as {P : Program} {C : World → Prop} {a : Act} {K : Act → Prop} {dst : Option Tmp} {ty : TypeId} {x : Operand} {type : TypeId} {pos : String} {after : Array Edge} {guard : Option (Nat × Bool)}
    (g : Nat) (hx : a.eval x = .pointer (some ⟨g, 0, none⟩)) (t : TypeId) (cs : Array Value) (fr : Nat × Nat) (d : TypeDesc) (hg : ∀ w, C w → w.heap[g]? = some (.cells cs t fr))
    (hu : P.underlying ty = some d) (hd : (match d with | .struct _ | .array _ _ => true | _ => false) = true) (hi : (P.info? ty).map (·.size) = some cs.size)
    (h : Oper.quiet P (Oper.mk dst (.move (.const (.agg cs))) type pos after guard) a C K) : Oper.quiet P (Oper.mk dst (.load ty x) type pos after guard) a C K := by
  obtain ⟨v, h1, h2⟩ := h
  refine ⟨v, fun w hw => ?_, h2⟩
  have e := h1 w hw
  unfold Oper.quietAt at e ⊢
  rw [BigFrame.run_move (.const (.agg cs)) rfl] at e
  have hv : Value.agg cs = v := e.2
  subst hv
  unfold execOp
  simp only [hx, Instr.loadAt, Instr.sureAddr, Sem.run_bind, Sem.run_pure, Result.andThen_ok, run_loadVar_row w g t ty cs fr d (hg w hw) hu hd hi]
  exact ⟨rfl, rfl⟩
end Go.Proofs.Ytenpkmgbaajeeaa

/- Bytes and rows of bytes of the call's own: append; a row as a string. -/
namespace Go.Proofs.Ytenpkmgbaajeeaa
open Go.RowKit
set_option linter.unusedVariables false

theorem u8_info' : (Try.prog.info? 5).map (fun i => (i.zero, i.size, i.bytes)) = some (some (.int .u8 0), 1, 1) := by kernel_rfl
theorem OB.below {B : Nat} {w w' : World} {A : Option Addr} {c : Nat} {l : List UInt8} (h : OB B w A c l) (hb : Below w.heap.size w w') : OB B w' A c l := ownsRow_below h hb
theorem OB.br {B : Nat} {w : World} {A : Option Addr} {c : Nat} {l : List UInt8} (h : OB B w A c l) (hl : l.length ≤ 140737488351232) : BR w A c l := Rd.of_own h hl
theorem OB.le_ {B B' : Nat} {w : World} {A : Option Addr} {c : Nat} {l : List UInt8} (h : OB B w A c l) (hB : B' ≤ B) : OB B' w A c l :=
  ⟨h.1, h.2.elim Or.inl (fun ⟨g, cap, cur, hv, hg, r⟩ => Or.inr ⟨g, cap, cur, hv, Nat.le_trans hB hg, r⟩)⟩
theorem OB.nil' (B : Nat) (w : World) : OB B w none 0 [] := World.ownsRow_nil w B _ 1
/-- An empty literal. -/
theorem OB.lit0 (B : Nat) (w : World) (hB : B ≤ w.heap.size) : OB B (w.alloc (.cells #[] 5)) (some ⟨w.heap.size, 0, none⟩) 0 [] := World.ownsRow_lit w #[] 0 hB (by simp [maxLen]) (by simp)
/-- A literal. -/
theorem OB.lit (B : Nat) (w : World) (l : List UInt8) (hB : B ≤ w.heap.size) (hl : l.length ≤ 1000000) {n : Nat} (hn : l.length = n) : OB B (w.alloc (.cells (cellsB l).toArray 5)) (some ⟨w.heap.size, 0, none⟩) n l := by
  subst hn
  exact World.ownsRow_lit (e := 5) (size := 1) w (cellsB l).toArray l.length hB (by simp only [maxLen]; omega) (by simp [cellsB])
theorem BR.src {w : World} {A : Option Addr} {c : Nat} {l : List UInt8} (h : BR w A c l) {n : Nat} (hn : l.length = n) : Src w 1 A n (cellsB l) := by subst hn; exact Rd.src h
theorem src_lit {w : World} (l : List UInt8) {n : Nat} (hn : l.length = n) : Src (w.alloc (.cells (cellsB l).toArray 5)) 1 (some ⟨w.heap.size, 0, none⟩) n (cellsB l) := by
  subst hn
  refine ⟨by simp [cellsB], .inr ⟨_, rfl, fun j u hu => ?_⟩⟩
  rw [Addr.add_lit, Nat.zero_add]
  simpa using hu

theorem wpList_append_bytes (w : World) {ops : Array Oper} {rest : List Oper} {o : Oper} {a : Act} {Q : Exit → Act → World → Prop} (hgd : o.guard = none) (s x : Operand)
    (ho : o.op = .call { callee := .builtin .append, args := #[s, x], argTypes := #[23, 23] })
    (B : Nat) (A : Option Addr) (n c : Nat) (l : List UInt8) (hn : l.length = n) (hs : a.eval s = .slice A n c) (hown : OB B w A c l)
    (X : Option Addr) (m d : Nat) (news : List UInt8) (hm : news.length = m) (hx : a.eval x = .slice X m d) (hsrc : Src w 1 X m (cellsB news))
    (hlen : n + m ≤ 140737488351232) (hB : B ≤ w.heap.size)
    (h : ∀ A' c' w', OB B w' A' c' (l ++ news) → Below B w w' → w.grownBy w' (Value.ownBlock (.slice A n c)) → wpList Try.prog ops Q rest (a.put o.dst (.slice A' (n + m) c')) w') : wpList Try.prog ops Q (o :: rest) a w := by
  obtain ⟨i0, hi, hz0, hz1, hz2⟩ := info_parts u8_info'
  subst hn hm
  refine wpList_append_src w hgd s x 23 ho B 5 i0 (.int .u8 0) 1 1 Try.underlying23 hi hz0 hz1 hz2 rfl (by omega) A l.length c (cellsB l) hs hown X news.length d (cellsB news) hx hsrc (cellsB_one _)
    (by simp only [maxLen]; omega) (by omega) hB ?_
  intro A' c' w' h1 h2 h3
  refine h A' c' w' ?_ (grown_below (Below.refl _ _) hown h2 hB (Nat.le_refl _)) h2
  unfold OB
  rw [cellsB_append, List.length_append]
  exact h1

/-- Some bytes as a string. -/
def strB (l : List UInt8) : ByteArray := ⟨l.toArray⟩
theorem strB_inj {a b : List UInt8} (h : strB a = strB b) : a = b := by
  have := congrArg (fun x : ByteArray => x.data.toList) h
  simpa [strB] using this
theorem run_string_br {w : World} {A : Option Addr} {c : Nat} {l : List UInt8} (h : BR w A c l) (n : Nat) (hn : l.length = n) : (convert 23 9 (.slice A n c)).run Try.prog w = .ok (.string (strB l)) w := by
  subst hn
  cases A with
  | none =>
    have hl : l = [] := by
      apply Classical.byContradiction
      intro hne
      obtain ⟨b, off, e, _⟩ := h.2 (by have := List.length_pos_iff.2 hne; omega)
      cases e
    subst hl
    rw [run_convert_bytes_string w 23 9 5 none _ c Try.underlying23 Try.underlying5 Try.underlying9]
    rfl
  | some p =>
    refine run_convert_bytes_back w 23 9 5 p c l Try.underlying23 Try.underlying5 Try.underlying9 (fun j hj => ?_)
    obtain ⟨b, off, e, hb, hc⟩ := h.at_ hj
    injection e with e
    subst e
    rw [Addr.add_lit, hc, bt_in hj]

/-- The rows that the call owns. -/
def RO (B : Nat) (w : World) (A : Option Addr) (c : Nat) (rs : List BRow) : Prop := w.ownsRow B 23 1 (.slice A rs.length c) rs.length (rs.map BRow.v)
theorem rows_info : (Try.prog.info? 23).map (fun i => (i.zero, i.size, i.bytes)) = some (some (.slice none 0 0), 1, 24) := by kernel_rfl
theorem RO.below {B : Nat} {w w' : World} {A : Option Addr} {c : Nat} {rs : List BRow} (h : RO B w A c rs) (hb : Below w.heap.size w w') : RO B w' A c rs := ownsRow_below h hb
theorem RO.nil (B : Nat) (w : World) : RO B w none 0 [] := World.ownsRow_nil w B _ 1
theorem wpList_append_row (w : World) {ops : Array Oper} {rest : List Oper} {o : Oper} {a : Act} {Q : Exit → Act → World → Prop} (hgd : o.guard = none) (s x : Operand)
    (ho : o.op = .call { callee := .builtin .append, args := #[s, x], argTypes := #[22, 22] })
    (B : Nat) (A : Option Addr) (n c : Nat) (rs : List BRow) (hn : rs.length = n) (hs : a.eval s = .slice A n c) (hown : RO B w A c rs)
    (r : BRow) (X : Option Addr) (d : Nat) (hx : a.eval x = .slice X 1 d) (hsrc : Src w 1 X 1 [r.v])
    (hlen : (n + 1) * 24 ≤ 140737488355328) (hB : B ≤ w.heap.size)
    (h : ∀ A' c' w', RO B w' A' c' (rs ++ [r]) → Below B w w' → w.grownBy w' (Value.ownBlock (.slice A n c)) → wpList Try.prog ops Q rest (a.put o.dst (.slice A' (n + 1) c')) w') : wpList Try.prog ops Q (o :: rest) a w := by
  obtain ⟨i0, hi, hz0, hz1, hz2⟩ := info_parts rows_info
  subst hn
  refine wpList_append_src w hgd s x 22 ho B 23 i0 (.slice none 0 0) 1 24 Try.underlying22 hi hz0 hz1 hz2 rfl (by omega) A rs.length c (rs.map BRow.v) hs hown X 1 d [r.v] hx hsrc (by intro u hu; rw [List.mem_singleton.1 hu]; rfl)
    (by simp only [maxLen]; omega) hlen hB ?_
  intro A' c' w' h1 h2 h3
  refine h A' c' w' ?_ (grown_below (Below.refl _ _) hown h2 hB (Nat.le_refl _)) h2
  unfold RO
  rw [List.map_append, List.length_append]
  exact h1
theorem RO.rr {B : Nat} {w : World} {A : Option Addr} {c : Nat} {rs : List BRow} (h : RO B w A c rs) (hl : rs.length ≤ 140737488351232) (hb : ∀ r ∈ rs, BR w r.A r.c r.l) : RR w A c rs := ⟨Rd.of_own h hl, hb⟩
end Go.Proofs.Ytenpkmgbaajeeaa

/- Arrays of integers and keys, compared. -/
namespace Go.Proofs.Ytenpkmgbaajeeaa
open Go.RowKit
set_option linter.unusedVariables false

theorem all_range_int : ∀ (xs ys : List Int), xs.length = ys.length → ((List.range xs.length).all fun i => xs.getD i 0 == ys.getD i 0) = (xs == ys)
  | [], [], _ => rfl
  | x :: xs, y :: ys, h => by
    have ih := all_range_int xs ys (by simpa using h)
    rw [List.length_cons, List.range_succ_eq_map, List.all_cons, List.all_map]
    simp only [List.getD_cons_zero, Function.comp_def, List.getD_cons_succ, ih]
    simp [List.cons_beq_cons]
  | [], _ :: _, h => by simp at h
  | _ :: _, [], h => by simp at h
theorem run_equalIn_ints {P : Program} (w : World) (d : Nat) (t e : TypeId) (k : IntKind) (n : Nat) (ht : P.underlying t = some (.array n e)) (he : P.underlying e = some (.int k)) (hsz : ∀ w, (sizeOf e).run P w = .ok 1 w)
    (xs ys : List Int) (hx : xs.length = n) (hy : ys.length = n) :
    (Op.equalIn (d + 2) t (.agg (xs.map (Value.int k)).toArray) (.agg (ys.map (Value.int k)).toArray)).run P w = .ok (xs == ys) w := by
  rw [← all_range_int xs ys (hx.trans hy.symm), hx, List.range_eq_range', Op.equalIn]
  simp only [Sem.run_bind, run_underlying ht, Result.andThen_ok, hsz, Std.Legacy.Range.forIn_eq_forIn_range', Std.Legacy.Range.size, Nat.sub_zero, Nat.add_sub_cancel, Nat.div_one]
  have hl : ∀ i ∈ List.range' 0 n 1, i < n := fun i hi => by simpa using (List.mem_range'_1.1 hi).2
  generalize List.range' 0 n 1 = l at hl ⊢
  induction l with
  | nil => simp
  | cons i l ih =>
    have hi : i < n := hl i (by simp)
    have px : (part e (xs.map (Value.int k)).toArray (i * 1)).run P w = .ok (.int k (xs.getD i 0)) w := by
      simp [part, isAgg, run_underlying he, List.getD, List.getElem?_eq_getElem (show i < xs.length by omega)]
    have py : (part e (ys.map (Value.int k)).toArray (i * 1)).run P w = .ok (.int k (ys.getD i 0)) w := by
      simp [part, isAgg, run_underlying he, List.getD, List.getElem?_eq_getElem (show i < ys.length by omega)]
    have pe : (Op.equalIn (d + 1) e (.int k (xs.getD i 0)) (.int k (ys.getD i 0))).run P w = .ok (xs.getD i 0 == ys.getD i 0) w := by
      rw [run_equalIn_int w d e k k _ _ he]
    simp only [List.forIn_cons, Sem.run_bind, px, py, pe, Result.andThen_ok, List.all_cons]
    cases hb : (xs.getD i 0 == ys.getD i 0)
    · simp
    · simp only [Bool.not_true, Bool.false_eq_true, if_false, Sem.run_pure, Result.andThen_ok, Bool.true_and]
      exact ih fun j hj => hl j (by simp [hj])
theorem size_one {P : Program} {e : TypeId} (h : (P.info? e).map (fun i => i.size) = some 1) : ∀ w, (sizeOf e).run P w = .ok 1 w := by
  intro w
  cases hi : P.info? e with
  | none => rw [hi] at h; cases h
  | some i =>
    rw [hi] at h
    injection h with h
    simp [sizeOf, typeInfo, hi, h]
/-- Two arrays of four integers. -/
theorem run_eql_4 (w : World) (a0 a1 a2 a3 b0 b1 b2 b3 : Int) : (binOp .eql 92 (.agg #[.int .i64 a0, .int .i64 a1, .int .i64 a2, .int .i64 a3]) (.agg #[.int .i64 b0, .int .i64 b1, .int .i64 b2, .int .i64 b3])).run Try.prog w = .ok (.bool ([a0, a1, a2, a3] == [b0, b1, b2, b3])) w := by
  have := run_equalIn_ints (P := Try.prog) w 9998 92 3 .i64 4 Try.underlying92 Try.underlying3 (size_one (by kernel_rfl)) [a0, a1, a2, a3] [b0, b1, b2, b3] rfl rfl
  rw [run_eql_struct]
  simp only [List.map_cons, List.map_nil] at this
  rw [this]
  rfl
/-- Two keys. -/
theorem run_eql_keys (w : World) (a b : List UInt8) (ha : a.length = 16) (hb : b.length = 16) : (binOp .eql 32 (.agg (cellsB a).toArray) (.agg (cellsB b).toArray)).run Try.prog w = .ok (.bool (a == b)) w := by
  exact run_eql_bytes w 32 5 16 Try.underlying32 Try.underlying5 (size_one (by kernel_rfl)) a b ha hb
theorem run_neq_keys (w : World) (a b : List UInt8) (ha : a.length = 16) (hb : b.length = 16) : (binOp .neq 32 (.agg (cellsB a).toArray) (.agg (cellsB b).toArray)).run Try.prog w = .ok (.bool (!(a == b))) w := by
  have := run_equalIn_bytes (P := Try.prog) w 9998 32 5 16 Try.underlying32 Try.underlying5 (size_one (by kernel_rfl)) a b ha hb
  rw [run_neq_struct]
  unfold cellsB
  have e : (fun x : UInt8 => Value.int .u8 (x.toNat : Int)) = Extern.Stop.cell := rfl
  rw [e, this]
  rfl
end Go.Proofs.Ytenpkmgbaajeeaa

/- The block cipher in plain words: rounds, round keys, blocks; undoing it. -/
namespace Go.Proofs.Ytenpkmgbaajeeaa
set_option linter.unusedVariables false

abbrev W2 := UInt64 × UInt64
def rotr8 (x : UInt64) : UInt64 := x >>> 8 ||| x <<< 56
def rotl8 (x : UInt64) : UInt64 := x <<< 8 ||| x >>> 56
def rotl3 (x : UInt64) : UInt64 := x <<< 3 ||| x >>> 61
def rotr3 (x : UInt64) : UInt64 := x >>> 3 ||| x <<< 61
theorem or_add (m : Nat) {a b : Nat} (hb : b < 2 ^ m) : a * 2 ^ m ||| b = a * 2 ^ m + b := by
  have := Nat.two_pow_add_eq_or_of_lt (i := m) (b := b) hb a
  rw [Nat.mul_comm a, ← this]
theorem toNat_rotr8 (x : UInt64) : (rotr8 x).toNat = (x.toNat % 256) * 72057594037927936 + x.toNat / 256 := by
  have h := x.toNat_lt
  simp only [rotr8, UInt64.toNat_or, UInt64.toNat_shiftRight, UInt64.toNat_shiftLeft]
  rw [show (8 : UInt64).toNat % 64 = 8 from rfl, show (56 : UInt64).toNat % 64 = 56 from rfl, Nat.shiftRight_eq_div_pow, Nat.shiftLeft_eq, Nat.or_comm]
  rw [show x.toNat * 2 ^ 56 % 2 ^ 64 = (x.toNat % 256) * 2 ^ 56 from by omega, or_add 56 (by omega)]
theorem toNat_rotl8 (x : UInt64) : (rotl8 x).toNat = (x.toNat % 72057594037927936) * 256 + x.toNat / 72057594037927936 := by
  have h := x.toNat_lt
  simp only [rotl8, UInt64.toNat_or, UInt64.toNat_shiftRight, UInt64.toNat_shiftLeft]
  rw [show (8 : UInt64).toNat % 64 = 8 from rfl, show (56 : UInt64).toNat % 64 = 56 from rfl, Nat.shiftRight_eq_div_pow, Nat.shiftLeft_eq]
  rw [show x.toNat * 2 ^ 8 % 2 ^ 64 = (x.toNat % 2 ^ 56) * 2 ^ 8 from by omega, or_add 8 (by omega)]
theorem toNat_rotl3 (x : UInt64) : (rotl3 x).toNat = (x.toNat % 2305843009213693952) * 8 + x.toNat / 2305843009213693952 := by
  have h := x.toNat_lt
  simp only [rotl3, UInt64.toNat_or, UInt64.toNat_shiftRight, UInt64.toNat_shiftLeft]
  rw [show (3 : UInt64).toNat % 64 = 3 from rfl, show (61 : UInt64).toNat % 64 = 61 from rfl, Nat.shiftRight_eq_div_pow, Nat.shiftLeft_eq]
  rw [show x.toNat * 2 ^ 3 % 2 ^ 64 = (x.toNat % 2 ^ 61) * 2 ^ 3 from by omega, or_add 3 (by omega)]
theorem toNat_rotr3 (x : UInt64) : (rotr3 x).toNat = (x.toNat % 8) * 2305843009213693952 + x.toNat / 8 := by
  have h := x.toNat_lt
  simp only [rotr3, UInt64.toNat_or, UInt64.toNat_shiftRight, UInt64.toNat_shiftLeft]
  rw [show (3 : UInt64).toNat % 64 = 3 from rfl, show (61 : UInt64).toNat % 64 = 61 from rfl, Nat.shiftRight_eq_div_pow, Nat.shiftLeft_eq, Nat.or_comm]
  rw [show x.toNat * 2 ^ 61 % 2 ^ 64 = (x.toNat % 8) * 2 ^ 61 from by omega, or_add 61 (by omega)]
theorem rotl8_rotr8 (x : UInt64) : rotl8 (rotr8 x) = x := by
  apply UInt64.toNat_inj.1
  have h := x.toNat_lt
  rw [toNat_rotl8, toNat_rotr8]
  omega
theorem rotr3_rotl3 (x : UInt64) : rotr3 (rotl3 x) = x := by
  apply UInt64.toNat_inj.1
  have h := x.toNat_lt
  rw [toNat_rotr3, toNat_rotl3]
  omega
theorem rotr8_rotl8 (x : UInt64) : rotr8 (rotl8 x) = x := by
  apply UInt64.toNat_inj.1
  have h := x.toNat_lt
  rw [toNat_rotr8, toNat_rotl8]
  omega
theorem rotl3_rotr3 (x : UInt64) : rotl3 (rotr3 x) = x := by
  apply UInt64.toNat_inj.1
  have h := x.toNat_lt
  rw [toNat_rotl3, toNat_rotr3]
  omega

/-- A round, and back. -/
def rnd (k : UInt64) (p : W2) : W2 := ((rotr8 p.1 + p.2) ^^^ k, rotl3 p.2 ^^^ ((rotr8 p.1 + p.2) ^^^ k))
def bck (k : UInt64) (p : W2) : W2 := (rotl8 ((p.1 ^^^ k) - rotr3 (p.1 ^^^ p.2)), rotr3 (p.1 ^^^ p.2))
theorem xor_xor_self (a b : UInt64) : a ^^^ (b ^^^ a) = b := by rw [UInt64.xor_comm b a, ← UInt64.xor_assoc, UInt64.xor_self, UInt64.zero_xor]
theorem xor_xor_right (a b : UInt64) : (a ^^^ b) ^^^ b = a := by rw [UInt64.xor_assoc, UInt64.xor_self, UInt64.xor_zero]
theorem bck_rnd (k : UInt64) (p : W2) : bck k (rnd k p) = p := by
  obtain ⟨x, y⟩ := p
  simp only [bck, rnd]
  rw [xor_xor_self, xor_xor_right, rotr3_rotl3, UInt64.add_sub_cancel, rotl8_rotr8]
theorem rnd_bck (k : UInt64) (p : W2) : rnd k (bck k p) = p := by
  obtain ⟨x, y⟩ := p
  simp only [bck, rnd]
  rw [rotr8_rotl8, UInt64.sub_add_cancel, xor_xor_right, rotl3_rotr3, UInt64.xor_comm x y, xor_xor_right]

/-- The state of the round keys after i rounds. -/
def ksS (k : W2) : Nat → W2
  | 0 => k
  | i + 1 => rnd (UInt64.ofNat i) (ksS k i)
/-- The words after i rounds. -/
def enW (k p : W2) : Nat → W2
  | 0 => p
  | i + 1 => rnd (ksS k i).2 (enW k p i)
/-- The words when the last i of 32 rounds have been undone. -/
def deW (k p : W2) : Nat → W2
  | 0 => p
  | i + 1 => bck (ksS k (31 - i)).2 (deW k p i)
theorem deW_enW (k p : W2) (i : Nat) (h : i ≤ 32) : deW k (enW k p 32) i = enW k p (32 - i) := by
  induction i with
  | zero => rfl
  | succ i ih =>
    rw [deW, ih (by omega), show 32 - i = (31 - i) + 1 from by omega, enW, bck_rnd]
    congr 1
    omega

/-- The number in some bytes, the highest first. -/
def wd (l : List UInt8) : UInt64 := l.foldl (fun n b => 256 * n + b.toUInt64) 0
/-- The bytes of a word, the highest first. -/
def by8 (x : UInt64) : List UInt8 := [(x >>> 56).toUInt8, (x >>> 48).toUInt8, (x >>> 40).toUInt8, (x >>> 32).toUInt8, (x >>> 24).toUInt8, (x >>> 16).toUInt8, (x >>> 8).toUInt8, x.toUInt8]
theorem by8_length (x : UInt64) : (by8 x).length = 8 := rfl
theorem wd_snoc (l : List UInt8) (b : UInt8) : wd (l ++ [b]) = 256 * wd l + b.toUInt64 := by simp [wd]
theorem shl8_or (n : UInt64) (b : UInt8) : n <<< 8 ||| b.toUInt64 = 256 * n + b.toUInt64 := by
  apply UInt64.toNat_inj.1
  have h := n.toNat_lt
  have h2 := b.toNat_lt
  simp only [UInt64.toNat_or, UInt64.toNat_shiftLeft, UInt64.toNat_add, UInt64.toNat_mul, UInt8.toNat_toUInt64]
  rw [show (8 : UInt64).toNat % 64 = 8 from rfl, show (256 : UInt64).toNat = 256 from rfl, Nat.shiftLeft_eq]
  rw [show n.toNat * 2 ^ 8 % 2 ^ 64 = (n.toNat % 2 ^ 56) * 2 ^ 8 from by omega, or_add 8 (by omega)]
  omega
theorem toNat_shr (x : UInt64) (k : Nat) (hk : k < 64) : (x >>> (UInt64.ofNat k)).toNat = x.toNat / 2 ^ k := by
  rw [UInt64.toNat_shiftRight, Nat.shiftRight_eq_div_pow]
  simp [UInt64.toNat_ofNat', Nat.mod_eq_of_lt (show k < 18446744073709551616 by omega), Nat.mod_eq_of_lt hk]
theorem wd_by8 (x : UInt64) : wd (by8 x) = x := by
  apply UInt64.toNat_inj.1
  have h := x.toNat_lt
  have t : ∀ k, k < 64 → (x >>> (UInt64.ofNat k)).toNat = x.toNat / 2 ^ k := toNat_shr x
  have t1 := t 56 (by omega)
  have t2 := t 48 (by omega)
  have t3 := t 40 (by omega)
  have t4 := t 32 (by omega)
  have t5 := t 24 (by omega)
  have t6 := t 16 (by omega)
  have t7 := t 8 (by omega)
  simp only [wd, by8, List.foldl, UInt64.toNat_add, UInt64.toNat_mul, UInt8.toNat_toUInt64, UInt64.toNat_toUInt8]
  simp only [show (UInt64.ofNat 56) = 56 from rfl, show (UInt64.ofNat 48) = 48 from rfl, show (UInt64.ofNat 40) = 40 from rfl, show (UInt64.ofNat 32) = 32 from rfl, show (UInt64.ofNat 24) = 24 from rfl, show (UInt64.ofNat 16) = 16 from rfl, show (UInt64.ofNat 8) = 8 from rfl] at t1 t2 t3 t4 t5 t6 t7
  rw [t1, t2, t3, t4, t5, t6, t7, show (256 : UInt64).toNat = 256 from rfl, show (0 : UInt64).toNat = 0 from rfl]
  omega
theorem wd_toNat (l : List UInt8) : (wd l).toNat = l.foldl (fun n b => 256 * n + b.toNat) 0 % 18446744073709551616 := by
  suffices ∀ (l : List UInt8) (a : UInt64) (m : Nat), a.toNat = m % 18446744073709551616 → (l.foldl (fun n b => 256 * n + b.toUInt64) a).toNat = l.foldl (fun n b => 256 * n + b.toNat) m % 18446744073709551616 from this l 0 0 rfl
  intro l
  induction l with
  | nil => exact fun a m h => h
  | cons b l ih =>
    intro a m h
    refine ih _ _ ?_
    simp only [UInt64.toNat_add, UInt64.toNat_mul, UInt8.toNat_toUInt64]
    rw [h, show (256 : UInt64).toNat = 256 from rfl]
    have := b.toNat_lt
    omega
theorem by8_wd (a b c d e f g h : UInt8) : by8 (wd [a, b, c, d, e, f, g, h]) = [a, b, c, d, e, f, g, h] := by
  have ha := a.toNat_lt
  have hb := b.toNat_lt
  have hc := c.toNat_lt
  have hd := d.toNat_lt
  have he := e.toNat_lt
  have hf := f.toNat_lt
  have hg := g.toNat_lt
  have hh := h.toNat_lt
  have hw := wd_toNat [a, b, c, d, e, f, g, h]
  simp only [List.foldl] at hw
  generalize wd [a, b, c, d, e, f, g, h] = x at hw
  have t := toNat_shr x
  have t1 := t 56 (by omega)
  have t2 := t 48 (by omega)
  have t3 := t 40 (by omega)
  have t4 := t 32 (by omega)
  have t5 := t 24 (by omega)
  have t6 := t 16 (by omega)
  have t7 := t 8 (by omega)
  simp only [show (UInt64.ofNat 56) = 56 from rfl, show (UInt64.ofNat 48) = 48 from rfl, show (UInt64.ofNat 40) = 40 from rfl, show (UInt64.ofNat 32) = 32 from rfl, show (UInt64.ofNat 24) = 24 from rfl, show (UInt64.ofNat 16) = 16 from rfl, show (UInt64.ofNat 8) = 8 from rfl] at t1 t2 t3 t4 t5 t6 t7
  unfold by8
  simp only [List.cons.injEq, and_true, ← UInt8.toNat_inj, UInt64.toNat_toUInt8, t1, t2, t3, t4, t5, t6, t7]
  refine ⟨?_, ?_, ?_, ?_, ?_, ?_, ?_, ?_⟩ <;> omega

/-- The words of a block; the block of two words. -/
def wds (b : List UInt8) : W2 := (wd (b.take 8), wd (b.drop 8))
def blk (p : W2) : List UInt8 := by8 p.1 ++ by8 p.2
theorem blk_length (p : W2) : (blk p).length = 16 := rfl
theorem wds_blk (p : W2) : wds (blk p) = p := by
  obtain ⟨x, y⟩ := p
  show (wd (by8 x), wd (by8 y)) = (x, y)
  rw [wd_by8, wd_by8]
theorem blk_wds {b : List UInt8} (h : b.length = 16) : blk (wds b) = b := by
  match b, h with
  | [b0, b1, b2, b3, b4, b5, b6, b7, b8, b9, b10, b11, b12, b13, b14, b15], _ =>
    show by8 (wd [b0, b1, b2, b3, b4, b5, b6, b7]) ++ by8 (wd [b8, b9, b10, b11, b12, b13, b14, b15]) = _
    rw [by8_wd, by8_wd]
    rfl
def encS (k b : List UInt8) : List UInt8 := blk (enW (wds k) (wds b) 32)
def decS (k b : List UInt8) : List UInt8 := blk (deW (wds k) (wds b) 32)
theorem encS_length (k b : List UInt8) : (encS k b).length = 16 := rfl
theorem decS_length (k b : List UInt8) : (decS k b).length = 16 := rfl
theorem decS_encS (k : List UInt8) {b : List UInt8} (h : b.length = 16) : decS k (encS k b) = b := by
  unfold decS encS
  rw [wds_blk, deW_enW _ _ _ (by omega)]
  exact blk_wds h
/-- The block of a tag, a counter and a number; what is derived; a number below most. -/
def tagS (t : UInt8) (c n : UInt64) : List UInt8 := blk (t.toUInt64 <<< 56 ||| c, n)
def derS (k : List UInt8) (t : UInt8) (n : UInt64) : List UInt8 := encS k (tagS t 0 n)
def numS (k : List UInt8) (n most : UInt64) : UInt64 := if most = 0 then 0 else (wds (derS k 3 n)).1 % most
end Go.Proofs.Ytenpkmgbaajeeaa

/- Keys in memory: a whole row out of a block and into it, as the walk meets them. -/
namespace Go.Proofs.Ytenpkmgbaajeeaa
open Go.RowKit
set_option linter.unusedVariables false

/-- The cells of a block; whether they may be written. -/
def rowAt (w : World) (g : Nat) : Array Value := match w.heap[g]? with | some (.cells cs _ _) => cs | _ => #[]
def rowFree (w : World) (g : Nat) : Bool := match w.heap[g]? with | some (.cells _ _ fr) => fr == (0, 0) | _ => false
theorem rowAt_some {w : World} {g : Nat} (h : (rowAt w g).size = 16) : ∃ t fr, w.heap[g]? = some (.cells (rowAt w g) t fr) := by
  unfold rowAt at h ⊢
  split
  · rename_i cs t fr he
    exact ⟨t, fr, by rw [he]⟩
  · rename_i he
    split at h
    · rename_i cs t fr he2
      exact absurd he2 (he cs t fr)
    · simp at h
theorem rowAt_alloc_new (w : World) (cs : Array Value) (t : TypeId) : rowAt (w.alloc (.cells cs t)) w.heap.size = cs := by
  unfold rowAt; rw [heap_alloc_new]
theorem rowAt_alloc_old (w : World) (o : Obj) (g : Nat) (h : g < w.heap.size) : rowAt (w.alloc o) g = rowAt w g := by
  unfold rowAt; rw [Below.heap_alloc w o g h]
theorem rowFree_alloc_new (w : World) (cs : Array Value) (t : TypeId) : rowFree (w.alloc (.cells cs t)) w.heap.size = true := by
  unfold rowFree; rw [heap_alloc_new]; rfl
theorem rowFree_alloc_old (w : World) (o : Obj) (g : Nat) (h : g < w.heap.size) : rowFree (w.alloc o) g = rowFree w g := by
  unfold rowFree; rw [Below.heap_alloc w o g h]
theorem rowAt_below {B : Nat} {w w' : World} (h : Below B w w') {g : Nat} (hg : g < B) : rowAt w' g = rowAt w g := by unfold rowAt; rw [h.block g hg]
theorem rowFree_below {B : Nat} {w w' : World} (h : Below B w w') {g : Nat} (hg : g < B) : rowFree w' g = rowFree w g := by unfold rowFree; rw [h.block g hg]
theorem rowAt_drew (w : World) (g : Nat) : rowAt w.drew g = rowAt w g := rfl
theorem rowAt_drewN (w : World) (n g : Nat) : rowAt (w.drewN n) g = rowAt w g := rfl
theorem rowFree_drew (w : World) (g : Nat) : rowFree w.drew g = rowFree w g := rfl
theorem rowFree_drewN (w : World) (n g : Nat) : rowFree (w.drewN n) g = rowFree w g := rfl
theorem cell_row {w : World} {g j : Nat} (h : (rowAt w g).size = 16) : w.cell? ⟨g, j, none⟩ = (rowAt w g)[j]? := by
  obtain ⟨t, fr, he⟩ := rowAt_some h
  exact cell_of_row w g j _ t fr he

theorem run_loadCells_key {P : Program} (w : World) (g : Nat) (h : (rowAt w g).size = 16) : (loadCellsFrom ⟨g, 0, none⟩ 0 16 #[]).run P w = .ok (rowAt w g) w := by
  obtain ⟨t, fr, he⟩ := rowAt_some h
  have := run_loadCells_list (P := P) w ⟨g, 0, none⟩ (rowAt w g).toList (fun j v hv => by
    rw [Addr.add_lit, Nat.zero_add, cell_of_row w g j _ t fr he]
    simpa using hv)
  rw [Array.length_toList, h] at this
  simpa [loadCells] using this
theorem run_storeCells_key {P : Program} (w : World) (g : Nat) (l : List Value) (hl : l.length = 16) (h1 : l.all (·.oneCell') = true) (h : (rowAt w g).size = 16) (hf : rowFree w g = true) : (storeCells ⟨g, 0, none⟩ l 0).run P w = .ok () (w.setRow g l.toArray) := by
  obtain ⟨t, fr, he⟩ := rowAt_some h
  have hfr : fr = (0, 0) := by
    unfold rowFree at hf
    rw [he] at hf
    simpa using hf
  subst hfr
  exact run_storeCells_from (P := P) g t l 0 (rowAt w g) w he (by omega) (fun v hv => List.all_eq_true.1 h1 v hv)
theorem run_storeCells_new {P : Program} (w : World) (cs : Array Value) (t : TypeId) (l : List Value) (hl : l.length = 16) (h1 : l.all (·.oneCell') = true) (hc : cs.size = 16) : (storeCells ⟨w.heap.size, 0, none⟩ l 0).run P (w.alloc (.cells cs t)) = .ok () (w.alloc (.cells l.toArray t)) := by
  rw [run_storeCells_key _ _ l hl h1 (by rw [rowAt_alloc_new]; exact hc) (rowFree_alloc_new w cs t), World.setRow_alloc_new]
theorem setRow_alloc_new (w : World) (c c' : Array Value) (t : TypeId) : (w.alloc (.cells c t)).setRow w.heap.size c' = w.alloc (.cells c' t) := World.setRow_alloc_new w c c' t
theorem setRow_alloc_old (w : World) (o : Obj) (g : Nat) (cs : Array Value) (h : g < w.heap.size) : (w.alloc o).setRow g cs = (w.setRow g cs).alloc o := by
  simp only [World.setRow, World.alloc]
  congr 1
  apply Array.ext_getElem?
  intro i
  rw [Array.getElem?_modify, Array.getElem?_push, Array.getElem?_push, Array.getElem?_modify]
  by_cases hi : i = w.heap.size
  · subst hi
    have : ¬ g = w.heap.size := by omega
    simp [this]
  · by_cases hg : g = i
    · subst hg
      simp [hi]
    · simp [hi, hg]
/-- A whole key that was read cell by cell. -/
theorem fold16 (l : List Value) (p0 : 0 < l.length) (p1 : 1 < l.length) (p2 : 2 < l.length) (p3 : 3 < l.length) (p4 : 4 < l.length) (p5 : 5 < l.length) (p6 : 6 < l.length) (p7 : 7 < l.length) (p8 : 8 < l.length) (p9 : 9 < l.length) (p10 : 10 < l.length) (p11 : 11 < l.length) (p12 : 12 < l.length) (p13 : 13 < l.length) (p14 : 14 < l.length) (p15 : 15 < l.length) (h : l.length = 16) : (#[l[0]'p0, l[1]'p1, l[2]'p2, l[3]'p3, l[4]'p4, l[5]'p5, l[6]'p6, l[7]'p7, l[8]'p8, l[9]'p9, l[10]'p10, l[11]'p11, l[12]'p12, l[13]'p13, l[14]'p14, l[15]'p15] : Array Value) = l.toArray := by
  match l, h with
  | [_, _, _, _, _, _, _, _, _, _, _, _, _, _, _, _], _ => rfl
theorem fold16B (b : List UInt8) (h : b.length = 16) {p0 : 0 < (cellsB b).length} {p1 : 1 < (cellsB b).length} {p2 : 2 < (cellsB b).length} {p3 : 3 < (cellsB b).length} {p4 : 4 < (cellsB b).length} {p5 : 5 < (cellsB b).length} {p6 : 6 < (cellsB b).length} {p7 : 7 < (cellsB b).length} {p8 : 8 < (cellsB b).length} {p9 : 9 < (cellsB b).length} {p10 : 10 < (cellsB b).length} {p11 : 11 < (cellsB b).length} {p12 : 12 < (cellsB b).length} {p13 : 13 < (cellsB b).length} {p14 : 14 < (cellsB b).length} {p15 : 15 < (cellsB b).length} : (#[(cellsB b)[0]'p0, (cellsB b)[1]'p1, (cellsB b)[2]'p2, (cellsB b)[3]'p3, (cellsB b)[4]'p4, (cellsB b)[5]'p5, (cellsB b)[6]'p6, (cellsB b)[7]'p7, (cellsB b)[8]'p8, (cellsB b)[9]'p9, (cellsB b)[10]'p10, (cellsB b)[11]'p11, (cellsB b)[12]'p12, (cellsB b)[13]'p13, (cellsB b)[14]'p14, (cellsB b)[15]'p15] : Array Value) = (cellsB b).toArray := fold16 _ _ _ _ _ _ _ _ _ _ _ _ _ _ _ _ _ (by rw [cellsB_length, h])

/-- The key of zeros. -/
def zeroK : List UInt8 := List.replicate 16 0
theorem zeroK_length : zeroK.length = 16 := rfl
/-- Block g is just these cells, none frozen. -/
def Blk (w : World) (g : Nat) (t : TypeId) (cs : Array Value) : Prop := w.heap[g]? = some (.cells cs t (0, 0))
section
variable {w w' : World} {g : Nat} {t : TypeId} {cs : Array Value}
theorem Blk.lt (h : Blk w g t cs) : g < w.heap.size := by
  rcases Nat.lt_or_ge g w.heap.size with hlt | hge
  · exact hlt
  · unfold Blk at h; rw [Array.getElem?_eq_none hge] at h; cases h
theorem Blk.cell (h : Blk w g t cs) (i : Nat) : w.cell? ⟨g, i, none⟩ = cs[i]? := cell_of_row w g i cs t (0, 0) h
theorem Blk.frozen (h : Blk w g t cs) (i : Nat) : w.frozen? ⟨g, i, none⟩ = false := by
  unfold Blk at h
  simp [World.frozen?, h]
theorem Blk.new (w : World) (t : TypeId) (cs : Array Value) : Blk (w.alloc (.cells cs t)) w.heap.size t cs := heap_alloc_new w _
theorem Blk.drew (h : Blk w g t cs) : Blk w.drew g t cs := h
theorem Blk.drewN (h : Blk w g t cs) (n : Nat) : Blk (w.drewN n) g t cs := h
theorem Blk.alloc (h : Blk w g t cs) (o : Obj) : Blk (w.alloc o) g t cs := (Below.heap_alloc w o g h.lt).trans h
theorem Blk.set_ (h : Blk w g t cs) (i : Nat) (u : Value) : Blk (w.setCell ⟨g, i, none⟩ u) g t (cs.setIfInBounds i u) := by
  unfold Blk at h ⊢
  simp [World.setCell, Array.getElem?_modify, h]
theorem Blk.far (h : Blk w g t cs) {p : Addr} (hp : g ≠ p.block) (u : Value) : Blk (w.setCell p u) g t cs := (Below.heap_setCell w p u g hp).trans h
theorem Blk.below {B : Nat} (h : Blk w g t cs) (hb : Below B w w') (hg : g < B) : Blk w' g t cs := (hb.block g hg).trans h
theorem Blk.below' (h : Blk w g t cs) (hb : Below w.heap.size w w') : Blk w' g t cs := h.below hb h.lt
theorem Blk.row (h : Blk w g t cs) : rowAt w g = cs := by unfold rowAt; unfold Blk at h; rw [h]
theorem Blk.free (h : Blk w g t cs) : rowFree w g = true := by unfold rowFree; unfold Blk at h; rw [h]; rfl
theorem Blk.setRow (h : Blk w g t cs) (cs' : Array Value) : Blk (w.setRow g cs') g t cs' := setRow_heap w g cs cs' t (0, 0) h
end
theorem below_setRow {B : Nat} {a w : World} (h : Below B a w) {g : Nat} (hg : B ≤ g) (cs : Array Value) : Below B a (w.setRow g cs) :=
  ⟨h.os, h.tape, h.output, by simpa using h.size, fun k hk => (setRow_other w g k cs (by omega)).trans (h.block k hk)⟩
theorem blk_b0 (w : World) (cs : Array Value) (t : TypeId) (o1 : Obj) : Blk ((w.alloc (.cells cs t)).alloc o1) w.heap.size t cs := (Blk.new w t cs).alloc o1
theorem blk_b1 (w : World) (o0 : Obj) (cs : Array Value) (t : TypeId) : Blk ((w.alloc o0).alloc (.cells cs t)) (w.heap.size + 1) t cs := by
  have := Blk.new (w.alloc o0) t cs
  rwa [World.size_alloc] at this
theorem blk_a0 (w : World) (cs : Array Value) (t : TypeId) (o1 o2 : Obj) : Blk (((w.alloc (.cells cs t)).alloc o1).alloc o2) w.heap.size t cs := (blk_b0 w cs t o1).alloc o2
theorem blk_a1 (w : World) (o0 : Obj) (cs : Array Value) (t : TypeId) (o2 : Obj) : Blk (((w.alloc o0).alloc (.cells cs t)).alloc o2) (w.heap.size + 1) t cs := (blk_b1 w o0 cs t).alloc o2
theorem blk_a2 (w : World) (o0 o1 : Obj) (cs : Array Value) (t : TypeId) : Blk (((w.alloc o0).alloc o1).alloc (.cells cs t)) (w.heap.size + 1 + 1) t cs := by
  have := blk_b1 (w.alloc o0) o1 cs t
  rwa [World.size_alloc] at this
theorem alloc3_bel (w : World) (o0 o1 o2 : Obj) : Below w.heap.size w (((w.alloc o0).alloc o1).alloc o2) := (((Below.refl _ _).alloc (Nat.le_refl _) _).alloc (by simp) _).alloc (by simp; omega) _
theorem alloc2_bel (w : World) (o0 o1 : Obj) : Below w.heap.size w ((w.alloc o0).alloc o1) := ((Below.refl _ _).alloc (Nat.le_refl _) _).alloc (by simp) _
/-- A key in a block: bytes. -/
theorem bytes_get (b : List UInt8) (i : Nat) (h : i < b.length) : (cellsB b).toArray[i]? = some (.int .u8 ((b.getD i 0).toNat : Int)) := by
  simp [cellsB, List.getD, List.getElem?_eq_getElem h]
end Go.Proofs.Ytenpkmgbaajeeaa

/- Rows of bytes that the call makes; bytes with an error. -/
namespace Go.Proofs.Ytenpkmgbaajeeaa
open Go.RowKit
set_option linter.unusedVariables false

/-- A row of zeros. -/
theorem made_bytes (n : Nat) : madeCells #[Value.int .u8 0] n = (cellsB (List.replicate n 0)).toArray := by
  apply Array.toList_inj.1
  rw [toList_madeCells_one]
  simp [cellsB]
theorem Blk.ob {B : Nat} {w : World} {g : Nat} {l : List UInt8} {n c : Nat} (h : Blk w g 5 (cellsB l).toArray) (hB : B ≤ g) (hn : l.length = n) (hc : c = n) (hc2 : n ≤ 1000000) : OB B w (some ⟨g, 0, none⟩) c l := by
  subst hn hc
  exact ⟨by simp [cellsB], .inr ⟨g, _, _, rfl, hB, h, Nat.le_refl _, by simp only [maxLen]; omega, by simp [cellsB], List.take_of_length_le (by simp [cellsB])⟩⟩
theorem ofNat_toNat_int {x : Int} (h0 : 0 ≤ x) (h1 : x ≤ 1000) : ((UInt64.ofNat x.toNat).toNat : Int) = x := by
  rw [UInt64.toNat_ofNat', Nat.mod_eq_of_lt (by omega)]
  omega
/-- What both hand back. -/
def BytesErr (B : Nat) (r : List UInt8 × Int) (e : Ending) (w' : World) : Prop := ∃ A c, e = .returned (.tuple #[.slice A r.1.length c, .int .i64 r.2]) ∧ OB B w' A c r.1
theorem bytesErr_nil (B : Nat) (w : World) (x : Int) {r : List UInt8 × Int} (h : r = ([], x)) : BytesErr B r (.returned (.tuple #[.slice none 0 0, .int .i64 x])) w := by
  subst h
  exact ⟨none, 0, rfl, OB.nil' _ _⟩
end Go.Proofs.Ytenpkmgbaajeeaa

/- Recordings as cells; the load of a field of 16 bytes. -/
namespace Go.Proofs.Ytenpkmgbaajeeaa
open Go.RowKit
set_option linter.unusedVariables false

theorem quiet_mid_as {P : Program} {C : World → Prop} {a : Act} {K : Act → Prop} {dst : Option Tmp} {ty : TypeId} {x : Operand} {type : TypeId} {pos : String} {after : Array Edge} {guard : Option (Nat × Bool)}
    (g o : Nat) (hx : a.eval x = .pointer (some ⟨g, o, none⟩)) (cs : List Value) (d : TypeDesc) (hg : ∀ w, C w → w.rangeAt g o cs)
    (hu : P.underlying ty = some d) (hd : d.isRow = true) (hi : (P.info? ty).map (·.size) = some cs.length)
    (h : Oper.quiet P (Oper.mk dst (.move (.const (.agg cs.toArray))) type pos after guard) a C K) : Oper.quiet P (Oper.mk dst (.load ty x) type pos after guard) a C K := by
  obtain ⟨v, h1, h2⟩ := h
  refine ⟨v, fun w hw => ?_, h2⟩
  have e := h1 w hw
  unfold Oper.quietAt at e ⊢
  rw [BigFrame.run_move (.const (.agg cs.toArray)) rfl] at e
  have hv : Value.agg cs.toArray = v := e.2
  subst hv
  unfold execOp
  simp only [hx, run_loadAt_mid w g o ty cs d (hg w hw) hu hd hi, Sem.run_bind, Sem.run_pure, Result.andThen_ok]
  exact ⟨rfl, rfl⟩

/-- The cells of a recording: the box, the check, the data. -/
def recC (x c : List UInt8) (A : Option Addr) (n cap : Nat) : List Value := cellsB x ++ (cellsB c ++ [.slice A n cap])
theorem recC_length {x c : List UInt8} (A : Option Addr) (n cap : Nat) (hx : x.length = 16) (hc : c.length = 16) : (recC x c A n cap).length = 33 := by simp [recC, cellsB, hx, hc]
theorem key_info {x : List UInt8} (hx : x.length = 16) : (Try.prog.info? 32).map (·.size) = some (cellsB x).length := by
  rw [show (Try.prog.info? 32).map (·.size) = some 16 from by kernel_rfl, cellsB_length, hx]
theorem rec_box {w : World} {g : Nat} {t : TypeId} {x c : List UInt8} {A : Option Addr} {n cap : Nat} (h : Blk w g t (recC x c A n cap).toArray) : w.rangeAt g 0 (cellsB x) := fun j v hv => by
  rw [Nat.zero_add, h.cell j, List.getElem?_toArray, recC, List.getElem?_append_left ?_, hv]
  rcases Nat.lt_or_ge j (cellsB x).length with h' | h'
  · exact h'
  · rw [List.getElem?_eq_none h'] at hv; cases hv
theorem rec_check {w : World} {g : Nat} {t : TypeId} {x c : List UInt8} {A : Option Addr} {n cap : Nat} (h : Blk w g t (recC x c A n cap).toArray) (hx : x.length = 16) : w.rangeAt g 16 (cellsB c) := fun j v hv => by
  have hj : j < (cellsB c).length := by
    rcases Nat.lt_or_ge j (cellsB c).length with h' | h'
    · exact h'
    · rw [List.getElem?_eq_none h'] at hv; cases hv
  have hl : (cellsB x).length = 16 := by rw [cellsB_length, hx]
  rw [h.cell (16 + j), List.getElem?_toArray, recC, List.getElem?_append_right (by omega), hl, Nat.add_sub_cancel_left, List.getElem?_append_left hj, hv]
theorem rec_data {w : World} {g : Nat} {t : TypeId} {x c : List UInt8} {A : Option Addr} {n cap : Nat} (h : Blk w g t (recC x c A n cap).toArray) (hx : x.length = 16) (hc : c.length = 16) : w.cell? ⟨g, 32, none⟩ = some (.slice A n cap) := by
  have hl : (cellsB x).length = 16 := by rw [cellsB_length, hx]
  have hl2 : (cellsB c).length = 16 := by rw [cellsB_length, hc]
  rw [h.cell 32, List.getElem?_toArray, recC, List.getElem?_append_right (by omega), hl, List.getElem?_append_right (by omega), hl2]
  rfl
end Go.Proofs.Ytenpkmgbaajeeaa

/- Whole keys in regions that draw: ranges of cells. -/
namespace Go.Proofs.Ytenpkmgbaajeeaa
open Go.RowKit
set_option linter.unusedVariables false

theorem bel_on {w0 w w' : World} (h1 : Below w0.heap.size w0 w) (h2 : Below w.heap.size w w') : Below w0.heap.size w0 w' := h1.trans (h2.mono h1.size)
theorem Blk.range {w : World} {g : Nat} {t : TypeId} {cs : List Value} (h : Blk w g t cs.toArray) : w.rangeAt g 0 cs := fun j v hv => by rw [Nat.zero_add, h.cell j]; simpa using hv
theorem Blk.there {w : World} {g : Nat} {t : TypeId} {cs : Array Value} (h : Blk w g t cs) {o n : Nat} (hn : o + n ≤ cs.size) : w.there g o n := fun j hj => by
  refine ⟨?_, h.frozen _⟩
  rw [h.cell, Array.getElem?_eq_getElem (by omega)]; rfl
theorem range_below {w w' : World} {g o : Nat} {cs : List Value} (h : w.rangeAt g o cs) (hb : Below w.heap.size w w') : w'.rangeAt g o cs := fun j v hv => by
  have h1 := h j v hv
  rw [hb.cell (World.block_lt_of_cell? w _ h1)]
  exact h1
theorem setCells_row {w : World} {g : Nat} {t : TypeId} {old : Array Value} (h : Blk w g t old) (l : List Value) (hs : old.size = l.length) (h1 : ∀ v ∈ l, v.oneCell' = true) : w.setCells g 0 l = w.setRow g l.toArray := by
  have a := run_storeCells_from (P := Try.prog) g t l 0 old w h (by omega) h1
  have b := run_storeCells_cells (P := Try.prog) g 0 l 0 w (fun j hj => by simpa using (h.there (o := 0) (n := l.length) (by omega) j hj).1) (fun j hj => by simpa using (h.there (o := 0) (n := l.length) (by omega) j hj).2) h1
  simp only [List.take_zero, List.nil_append, Nat.add_zero] at a b
  rw [b] at a
  injection a with _ a
theorem range_setRow {w : World} {g o g' : Nat} {cs : List Value} (h : w.rangeAt g o cs) (hne : g ≠ g') (cs' : Array Value) : (w.setRow g' cs').rangeAt g o cs := fun j v hv => by
  rw [← h j v hv]
  exact World.cell?_of_block (setRow_other w g' g cs' hne)
theorem cells_one (l : List UInt8) : ∀ v ∈ cellsB l, v.oneCell' = true := cellsB_one l

section
variable {P : Program} {md : Region.Mode} {ops : Array Oper} {Q : Exit → Act → World → Prop} {S : World → Prop} {fuel : Nat} {listed : Array Bool} {a : Act} {w : World}
/-- A load of a row, or of a part of one, is taken first. -/
theorem hd_load (i : Nat) {oi : Oper} (g o : Nat) (cs : List Value) (ty : TypeId) (x : Operand) {d : TypeDesc} (hi : ops[i]? = some oi) (ho : oi.op = .load ty x) (hg : oi.guard = none)
    (hs : Region.noSelect ops = true) (hf : Region.free md ops listed i = true) (hr : (Region.ready md ops listed).contains i = true) (hQ : ∀ c a w, Q (.panic c) (a.put oi.dst (.agg cs.toArray)) w → Q (.panic c) a w)
    (hx : a.eval x = .pointer (some ⟨g, o, none⟩)) (hS : ∀ w, S w → w.rangeAt g o cs) (hu : P.underlying ty = some d) (hd : d.isRow = true) (hn : (P.info? ty).map (·.size) = some cs.length) (hw : S w)
    (h : wpAnyH P md ops Q S fuel (listed.setIfInBounds i true) (a.put oi.dst (.agg cs.toArray)) w) : wpAnyH P md ops Q S (fuel + 1) listed a w :=
  wpAnyH_take hi hs hf hr hQ (yieldsIf_load_mid (by simp [Region.wanted, hg]) ty x ho g o hx cs d hS hu hd hn) hw h
/-- What yields a value in every world in question is taken first. -/
theorem hd_take (i : Nat) {oi : Oper} (v : Value) (hi : ops[i]? = some oi) (hg : oi.guard = none)
    (hs : Region.noSelect ops = true) (hf : Region.free md ops listed i = true) (hr : (Region.ready md ops listed).contains i = true) (hQ : ∀ c a w, Q (.panic c) (a.put oi.dst v) w → Q (.panic c) a w)
    (hy : ∀ w, S w → (execOp a.eval oi).run P w = .ok (.value v) w) (hw : S w)
    (h : wpAnyH P md ops Q S fuel (listed.setIfInBounds i true) (a.put oi.dst v) w) : wpAnyH P md ops Q S (fuel + 1) listed a w :=
  wpAnyH_take hi hs hf hr hQ (.inl ⟨by simp [Region.wanted, hg], hy⟩) hw h
/-- The only one that may come up. -/
theorem hd_one (i : Nat) {oi : Oper} (hi : ops[i]? = some oi) (hg : oi.guard = none) (hr : Region.ready md ops listed = [i])
    (h : oi.wp P a w (fun a' w' => S w' ∧ wpAnyH P md ops Q S fuel (listed.setIfInBounds i true) a' w') Q) : wpAnyH P md ops Q S (fuel + 1) listed a w := by
  refine wpAnyH_all hr (by simp) fun j hj => ?_
  rw [List.mem_singleton] at hj
  subst hj
  unfold wpOp
  have hw : Region.wanted oi (yielded ops a.tmps) = true := by simp [Region.wanted, hg]
  simp only [hi, hw, if_true]
  exact .inl h
/-- A store of a whole row, the only one that may come up. -/
theorem hd_store (i : Nat) {oi : Oper} (g : Nat) (cells : Array Value) (ty : TypeId) (x y : Operand) (hi : ops[i]? = some oi) (ho : oi.op = .store ty x y) (hg : oi.guard = none) (hr : Region.ready md ops listed = [i])
    (hx : a.eval x = .pointer (some ⟨g, 0, none⟩)) (hy : a.eval y = .agg cells) {t : TypeId} {old : Array Value} (hb : Blk w g t old) (hn : (P.info? ty).map (·.size) = some cells.size) (hold : old.size = cells.size) (h1 : cells.all (·.oneCell') = true)
    (hS : S (w.setRow g cells)) (h : wpAnyH P md ops Q S fuel (listed.setIfInBounds i true) (a.put oi.dst undef) (w.setRow g cells)) : wpAnyH P md ops Q S (fuel + 1) listed a w :=
  hd_one i hi hg hr (wp_store_row ty x y ho g cells hx hy t old hb hn hold h1 ⟨hS, h⟩)
/-- A row is made, the only one that may come up. -/
theorem hd_calls (i : Nat) {oi : Oper} (f : FuncId) (args : Array Value) (hi : ops[i]? = some oi) (hg : oi.guard = none) (hr : Region.ready md ops listed = [i]) (hrun : (execOp a.eval oi).run P w = .ok (.enter f args) w)
    (h : Calls P f args w fun e w' => ∃ v, e = .returned v ∧ S w' ∧ wpAnyH P md ops Q S fuel (listed.setIfInBounds i true) (a.put oi.dst v) w') : wpAnyH P md ops Q S (fuel + 1) listed a w :=
  hd_one i hi hg hr (by
    unfold Oper.wp
    rw [hrun]
    refine h.mono fun e w' hv => ?_
    obtain ⟨v, rfl, hk⟩ := hv
    exact hk)
theorem hd_two (i j : Nat) (hr : Region.ready md ops listed = [i, j]) (h1 : wpOp P ops Q i (fun a' w' => S w' ∧ wpAnyH P md ops Q S fuel (listed.setIfInBounds i true) a' w') a w)
    (h2 : wpOp P ops Q j (fun a' w' => S w' ∧ wpAnyH P md ops Q S fuel (listed.setIfInBounds j true) a' w') a w) : wpAnyH P md ops Q S (fuel + 1) listed a w := by
  refine wpAnyH_all hr (by simp) fun k hk => ?_
  rcases List.mem_cons.1 hk with rfl | hk
  · exact h1
  · rw [List.mem_singleton] at hk; subst hk; exact h2
theorem hd_sole (i : Nat) (hr : Region.ready md ops listed = [i]) (h1 : wpOp P ops Q i (fun a' w' => S w' ∧ wpAnyH P md ops Q S fuel (listed.setIfInBounds i true) a' w') a w) : wpAnyH P md ops Q S (fuel + 1) listed a w := by
  refine wpAnyH_all hr (by simp) fun k hk => ?_
  rw [List.mem_singleton] at hk; subst hk; exact h1
theorem op_call {i : Nat} {oi : Oper} {K : Act → World → Prop} (f : FuncId) (args : Array Value) (hi : ops[i]? = some oi) (hg : oi.guard = none) (hrun : (execOp a.eval oi).run P w = .ok (.enter f args) w)
    (h : Calls P f args w fun e w' => ∃ v, e = .returned v ∧ K (a.put oi.dst v) w') : wpOp P ops Q i K a w := by
  have hw : Region.wanted oi (yielded ops a.tmps) = true := by simp [Region.wanted, hg]
  unfold wpOp
  simp only [hi, hw, if_true]
  refine .inl ?_
  unfold Oper.wp
  rw [hrun]
  refine h.mono fun e w' hv => ?_
  obtain ⟨v, rfl, hk⟩ := hv
  exact hk
theorem op_run {i : Nat} {oi : Oper} {K : Act → World → Prop} (v : Value) (w' : World) (hi : ops[i]? = some oi) (hg : oi.guard = none) (hrun : (execOp a.eval oi).run P w = .ok (.value v) w')
    (h : K (a.put oi.dst v) w') : wpOp P ops Q i K a w := by
  have hw : Region.wanted oi (yielded ops a.tmps) = true := by simp [Region.wanted, hg]
  unfold wpOp
  simp only [hi, hw, if_true]
  refine .inl ?_
  unfold Oper.wp
  rw [hrun]
  exact h
end
end Go.Proofs.Ytenpkmgbaajeeaa

/- Rows of numbers in memory. -/
namespace Go.Proofs.Ytenpkmgbaajeeaa
open Go.RowKit
set_option linter.unusedVariables false
set_option linter.unusedSimpArgs false

structure NRow where
  A : Option Addr
  c : Nat
  l : List Nat
def NRow.v (r : NRow) : Value := .slice r.A r.l.length r.c
instance : Inhabited NRow := ⟨⟨none, 0, []⟩⟩
/-- A slice that reads as rows of digits. -/
def RNat (w : World) (A : Option Addr) (c : Nat) (rs : List NRow) : Prop := Rd w 1 A c rs.length (rs.map NRow.v) ∧ ∀ r ∈ rs, NR w r.A r.c r.l
theorem RNat.below {w w' : World} {A : Option Addr} {c : Nat} {rs : List NRow} (h : RNat w A c rs) (hb : Below w.heap.size w w') : RNat w' A c rs := ⟨h.1.below hb, fun r hr => (h.2 r hr).below hb⟩
theorem RNat.at_ {w : World} {A : Option Addr} {c : Nat} {rs : List NRow} (h : RNat w A c rs) {i : Nat} (hi : i < rs.length) :
    ∃ b off r, A = some ⟨b, off, none⟩ ∧ b < w.heap.size ∧ rs[i]? = some r ∧ w.cell? ⟨b, off + i, none⟩ = some (.slice r.A r.l.length r.c) ∧ NR w r.A r.c r.l := by
  obtain ⟨b, off, e, hb, v, hv, hc⟩ := Rd.at1 h.1 hi
  have hr : rs[i]? = some rs[i] := List.getElem?_eq_getElem hi
  rw [List.getElem?_map, hr] at hv
  injection hv with hv
  subst hv
  exact ⟨b, off, rs[i], e, hb, hr, hc, h.2 _ (List.getElem_mem hi)⟩
/-- The rows that the call owns, none of their digits in the rows' own block. -/
def ONat (B : Nat) (w : World) (A : Option Addr) (c : Nat) (rs : List NRow) : Prop := w.ownsRow B 47 1 (.slice A rs.length c) rs.length (rs.map NRow.v)
def AptN (v : Value) (r : NRow) : Prop := r.l ≠ [] → ∀ b off, r.A = some ⟨b, off, none⟩ → v.ownBlock ≠ some b
/-- The digits lie from block B on. -/
def FromB (B : Nat) (r : NRow) : Prop := r.l ≠ [] → ∀ b off, r.A = some ⟨b, off, none⟩ → B ≤ b
theorem NF.fromB {B B' : Nat} {w : World} {A : Option Addr} {c : Nat} {l : List Nat} (h : NF B w A c l) (hB : B' ≤ B) : FromB B' ⟨A, c, l⟩ := fun hl b off e => by
  obtain ⟨b2, o2, e2, h2, _⟩ := h.2 hl
  simp only at e
  rw [e] at e2
  injection e2 with e2
  injection e2 with e2
  omega
def RowsN (B : Nat) (w : World) (A : Option Addr) (c : Nat) (rs : List NRow) : Prop := ONat B w A c rs ∧ ∀ r ∈ rs, (NR w r.A r.c r.l ∧ FromB B r) ∧ AptN (.slice A rs.length c) r
theorem nats_info : (Try.prog.info? 47).map (fun i => (i.zero, i.size, i.bytes)) = some (some (.slice none 0 0), 1, 24) := by kernel_rfl
theorem NR.grown_ {w w' : World} {A : Option Addr} {c : Nat} {l : List Nat} {row : Option Nat} (h : NR w A c l) (hne : l ≠ [] → ∀ b off, A = some ⟨b, off, none⟩ → row ≠ some b) (hg : w.grownBy w' row) : NR w' A c l :=
  ⟨h.1, h.2.1, h.2.2.1, fun hn => by
    obtain ⟨b, off, e, hb, hc⟩ := h.2.2.2 hn
    have hne' := hne hn b off e
    exact ⟨b, off, e, Nat.lt_of_lt_of_le hb hg.size, fun i hi => (World.cell?_of_block (hg.block b hb (fun e => hne' e.symm))).trans (hc i hi)⟩⟩
theorem RowsN.below {B : Nat} {w w' : World} {A : Option Addr} {c : Nat} {rs : List NRow} (h : RowsN B w A c rs) (hb : Below w.heap.size w w') : RowsN B w' A c rs := ⟨ownsRow_below h.1 hb, fun r hr => ⟨⟨(h.2 r hr).1.1.below hb, (h.2 r hr).1.2⟩, (h.2 r hr).2⟩⟩
theorem RowsN.read {B : Nat} {w : World} {A : Option Addr} {c : Nat} {rs : List NRow} (h : RowsN B w A c rs) (hl : rs.length ≤ 100000) : RNat w A c rs := ⟨Rd.of_own h.1 (by omega), fun r hr => (h.2 r hr).1.1⟩
theorem RowsN.lt {B : Nat} {w : World} {A : Option Addr} {c : Nat} {rs : List NRow} (h : RowsN B w A c rs) {b : Nat} (hb : (Value.slice A rs.length c).ownBlock = some b) : b < w.heap.size ∧ B ≤ b := by
  have := h.1.lt b hb
  exact ⟨by omega, by omega⟩
theorem NF.apt {B B' : Nat} {w w' : World} {A A' : Option Addr} {c c' : Nat} {rs : List NRow} {l : List Nat} (h : RowsN B w A c rs) (hq : NF B' w' A' c' l) (hB : w.heap.size ≤ B') : AptN (.slice A rs.length c) ⟨A', c', l⟩ := fun hl b off e hb => by
  obtain ⟨b2, o2, e2, h2, _⟩ := hq.2 hl
  have := (h.lt hb).1
  simp only at e
  rw [e] at e2
  injection e2 with e2
  injection e2 with e2
  omega
theorem NR.blk_lt {w : World} {A : Option Addr} {c : Nat} {l : List Nat} (h : NR w A c l) (hl : l ≠ []) {b off : Nat} (e : A = some ⟨b, off, none⟩) : b < w.heap.size := by
  obtain ⟨b2, o2, e2, h2, _⟩ := h.2.2.2 hl
  rw [e] at e2
  injection e2 with e2
  injection e2 with e2
  omega
/-- One more row. -/
theorem RowsN.snoc {B : Nat} {w w' : World} {A A' : Option Addr} {c c' : Nat} {rs : List NRow} {r : NRow} (h : RowsN B w A c rs) (hr : NR w r.A r.c r.l) (hf : FromB B r) (ha : AptN (.slice A rs.length c) r) (ho : ONat B w' A' c' (rs ++ [r])) (hg : w.grownBy w' (Value.ownBlock (.slice A rs.length c)))
    (hloc : Value.ownBlock (.slice A' (rs ++ [r]).length c') = Value.ownBlock (.slice A rs.length c) ∨ Value.ownBlock (.slice A' (rs ++ [r]).length c') = some w.heap.size) : RowsN B w' A' c' (rs ++ [r]) := by
  refine ⟨ho, fun x hx => ?_⟩
  obtain ⟨⟨x1, x3⟩, x2⟩ : (NR w x.A x.c x.l ∧ FromB B x) ∧ AptN (.slice A rs.length c) x := by
    rcases List.mem_append.1 hx with hx | hx
    · exact h.2 x hx
    · rw [List.mem_singleton.1 hx]; exact ⟨⟨hr, hf⟩, ha⟩
  refine ⟨⟨x1.grown_ x2 hg, x3⟩, fun hl b off e hb => ?_⟩
  rcases hloc with h1 | h1
  · rw [h1] at hb; exact x2 hl b off e hb
  · rw [h1] at hb
    injection hb with hb
    have := x1.blk_lt hl e
    omega
/-- A literal of one row. -/
theorem RowsN.one {B : Nat} (w : World) (r : NRow) (hr : NR w r.A r.c r.l) (hf : FromB B r) (hB : B ≤ w.heap.size) : RowsN B (w.alloc (.cells #[r.v] 47)) (some ⟨w.heap.size, 0, none⟩) 1 [r] := by
  refine ⟨World.ownsRow_lit (e := 47) (size := 1) w #[r.v] 1 hB (by simp [maxLen]) (by simp), fun x hx => ?_⟩
  rw [List.mem_singleton.1 hx]
  refine ⟨⟨hr.alloc _, hf⟩, fun hl b off e hb => ?_⟩
  have := hr.blk_lt hl e
  have : w.heap.size = b := by simpa [Value.ownBlock] using hb
  omega
theorem wpList_append_natrow (w : World) {ops : Array Oper} {rest : List Oper} {o : Oper} {a : Act} {Q : Exit → Act → World → Prop} (hgd : o.guard = none) (s x : Operand)
    (ho : o.op = .call { callee := .builtin .append, args := #[s, x], argTypes := #[70, 70] })
    (B : Nat) (A : Option Addr) (n c : Nat) (rs : List NRow) (hn : rs.length = n) (hs : a.eval s = .slice A n c) (hown : ONat B w A c rs)
    (r : NRow) (X : Option Addr) (d : Nat) (hx : a.eval x = .slice X 1 d) (hsrc : Src w 1 X 1 [r.v])
    (hlen : (n + 1) * 24 ≤ 140737488355328) (hB : B ≤ w.heap.size)
    (h : ∀ A' c' w', ONat B w' A' c' (rs ++ [r]) → Below B w w' → w.grownBy w' (Value.ownBlock (.slice A n c)) → (Value.ownBlock (.slice A' (rs ++ [r]).length c') = Value.ownBlock (.slice A n c) ∨ Value.ownBlock (.slice A' (rs ++ [r]).length c') = some w.heap.size) → wpList Try.prog ops Q rest (a.put o.dst (.slice A' (n + 1) c')) w') : wpList Try.prog ops Q (o :: rest) a w := by
  obtain ⟨i0, hi, hz0, hz1, hz2⟩ := info_parts nats_info
  subst hn
  refine wpList_append_src w hgd s x 70 ho B 47 i0 (.slice none 0 0) 1 24 Try.underlying70 hi hz0 hz1 hz2 rfl (by omega) A rs.length c (rs.map NRow.v) hs hown X 1 d [r.v] hx hsrc (by intro u hu; rw [List.mem_singleton.1 hu]; rfl)
    (by simp only [maxLen]; omega) hlen hB ?_
  intro A' c' w' h1 h2 h3
  have e : (rs ++ [r]).length = rs.length + 1 := by simp
  refine h A' c' w' ?_ (grown_below (Below.refl _ _) hown h2 hB (Nat.le_refl _)) h2 (by rw [e]; exact h3)
  unfold ONat
  rw [List.map_append, e]
  exact h1
end Go.Proofs.Ytenpkmgbaajeeaa

/- Rows of numbers of choices: the program. -/
namespace Go.Proofs.Ytenpkmgbaajeeaa
open Go.RowKit
set_option linter.unusedVariables false
set_option linter.unusedSimpArgs false

theorem divF_any {x y : Nat} {A Bd : Option Addr} {ca cb la lb : Nat} {w : World} (hx : Sm x) (hy : Sm y) (h0 : y ≠ 0) (hla : (digs x).length = la) (hlb : (digs y).length = lb) (ha : NR w A ca (digs x)) (hb : NR w Bd cb (digs y)) :
    Calls Try.prog 83 #[.slice A la ca, .slice Bd lb cb] w fun e w' => (∃ A' c' B' d' lr, e = .returned (.tuple #[.slice A' (digs (x / y)).length c', .slice B' lr d', .int .i64 0]) ∧ NF w.heap.size w' A' c' (digs (x / y))) ∧ Below w.heap.size w w' := by
  refine (Div_any A ca (digs x) Bd cb (digs y) w hla hlb ha hb).mono fun e w' h => ?_
  have e1 : divS (digs x) (digs y) = (digs (x / y), digs (x % y), 0) := by rw [divS, if_pos (hx.two hy), if_neg (digs_ne h0), val_digs, val_digs]
  rw [e1] at h
  obtain ⟨A', c', B', d', he, hf, _, _, hbl⟩ := h
  exact ⟨⟨A', c', B', d', _, he, hf⟩, hbl⟩
theorem must_any (A : Option Addr) (n c : Nat) (x : Int) (w : World) : Calls Try.prog 36 #[.slice A n c, .int .i64 x] w fun e w' => e = .returned (.slice A n c) ∧ Below w.heap.size w w' := by
  go_enter Try.func36, Try.ntmps36
  go_wp2_with fail
  go_ret
  exact ⟨rfl, Below.refl _ _⟩
theorem ofF_any (n : Nat) (w : World) (h : n ≤ 1000000) :
    Calls Try.prog 82 #[.int .u64 (n : Int)] w fun e w' => (∃ A c, e = .returned (.slice A (digs n).length c) ∧ NF w.heap.size w' A c (digs n)) ∧ Below w.heap.size w w' := by
  refine (Of_any n w (by omega)).mono fun e w' h => ?_
  obtain ⟨A', c', he, hf, hbl⟩ := h
  exact ⟨⟨A', c', he, hf⟩, hbl⟩
theorem one_any (w : World) : Calls Try.prog 81 #[] w fun e w' => (∃ A c, e = .returned (.slice A (digs 1).length c) ∧ NF w.heap.size w' A c (digs 1)) ∧ Below w.heap.size w w' := by
  have HO : Hid (∀ W, Calls Try.prog 82 #[.int .u64 1] W fun e w' => (∃ A c, e = .returned (.slice A (digs 1).length c) ∧ NF W.heap.size w' A c (digs 1)) ∧ Below W.heap.size W w') := fun W => ofF_any 1 W (by omega)
  generalize digs 1 = d at HO
  generalize hl : d.length = l at HO ⊢
  go_enter Try.func81, Try.ntmps81
  go_wp2_with (go_at_call 82; (with_reducible refine (HO.out _).mono ?_); rintro e w1 ⟨⟨A, c, rfl, hr⟩, hb⟩)
  go_ret
  exact ⟨⟨A, c, rfl, hr⟩, hb⟩
/-- The row of the choices of a things, from block B on. -/
def BinR (B : Nat) (w : World) (A : Option Addr) (c a : Nat) : Prop := ∃ rs : List NRow, (RNat w A c rs ∧ rs.length = a + 1 ∧ ∀ i, i ≤ a → ∃ r, rs[i]? = some r ∧ r.l = digs (bin a i)) ∧ (∀ b off, A = some ⟨b, off, none⟩ → B ≤ b) ∧ ∀ r ∈ rs, FromB B r
theorem BinR.below {B : Nat} {w w' : World} {A : Option Addr} {c a : Nat} (h : BinR B w A c a) (hb : Below w.heap.size w w') : BinR B w' A c a := by obtain ⟨rs, ⟨h1, h2, h3⟩, h4⟩ := h; exact ⟨rs, ⟨h1.below hb, h2, h3⟩, h4⟩
theorem BinR.mono {B B' : Nat} {w : World} {A : Option Addr} {c a : Nat} (h : BinR B w A c a) (hB : B' ≤ B) : BinR B' w A c a := by
  obtain ⟨rs, h1, h2, h3⟩ := h
  exact ⟨rs, h1, fun b off e => Nat.le_trans hB (h2 b off e), fun r hr hl b off e => Nat.le_trans hB (h3 r hr hl b off e)⟩
theorem BinR.far {B : Nat} {w w' : World} {A : Option Addr} {c a : Nat} (h : BinR B w A c a) (hs : w.heap.size ≤ w'.heap.size) (hk : ∀ p : Addr, B ≤ p.block → w'.cell? p = w.cell? p) : BinR B w' A c a := by
  obtain ⟨rs, ⟨h1, h2, h3⟩, h4, h5⟩ := h
  refine ⟨rs, ⟨⟨⟨h1.1.1, fun hn => ?_⟩, fun r hr => ?_⟩, h2, h3⟩, h4, h5⟩
  · obtain ⟨b, off, e, hb, hc⟩ := h1.1.2 hn
    exact ⟨b, off, e, by omega, fun j v hv => (hk _ (h4 b off e)).trans (hc j v hv)⟩
  · have hr1 := h1.2 r hr
    refine ⟨hr1.1, hr1.2.1, hr1.2.2.1, fun hn => ?_⟩
    obtain ⟨b, off, e, hb, hc⟩ := hr1.2.2.2 hn
    exact ⟨b, off, e, by omega, fun i hi => (hk _ (h5 r hr hn b off e)).trans (hc i hi)⟩
theorem BinR.at_ {B : Nat} {w : World} {A : Option Addr} {c a : Nat} (h : BinR B w A c a) {i : Nat} (hi : i ≤ a) : ∃ b off X x, A = some ⟨b, off, none⟩ ∧ b < w.heap.size ∧ w.cell? ⟨b, off + i, none⟩ = some (.slice X (digs (bin a i)).length x) ∧ NR w X x (digs (bin a i)) := by
  obtain ⟨rs, ⟨h1, h2, h3⟩, _⟩ := h
  obtain ⟨b, off, r, e, hb, hr, hc, hn⟩ := h1.at_ (i := i) (by omega)
  obtain ⟨r', hr', hl⟩ := h3 i hi
  rw [hr] at hr'
  injection hr' with hr'
  subst hr'
  rw [hl] at hc hn
  exact ⟨b, off, r.A, r.c, e, hb, hc, hn⟩
theorem RowsN.bin {B : Nat} {w : World} {A : Option Addr} {c a : Nat} {rs : List NRow} (h : RowsN B w A c rs) (hl : rs.length = a + 1) (ha : a ≤ 1000) (hr : ∀ i, i ≤ a → ∃ r, rs[i]? = some r ∧ r.l = digs (bin a i)) : BinR B w A c a :=
  ⟨rs, ⟨h.read (by omega), hl, hr⟩, fun b off e => (h.lt (b := b) (by rw [e]; rfl)).2, fun r hr => (h.2 r hr).1.2⟩
theorem RNat.cap {w : World} {A : Option Addr} {c : Nat} {rs : List NRow} (h : RNat w A c rs) : rs.length ≤ c ∧ c ≤ 9223372036854775807 := ⟨h.1.le, h.1.cap⟩

set_option maxHeartbeats 4000000 in
set_option maxRecDepth 100000 in
theorem rowOf_any (a : Nat) (w : World) (ha : a ≤ 128) :
    Calls Try.prog 59 #[.int .i64 (a : Int)] w fun e w' => (∃ A c, e = .returned (.slice A (a + 1) c) ∧ BinR w.heap.size w' A c a) ∧ Below w.heap.size w w' := by
  have hai : (a : Int) ≤ 128 := by omega
  have HO1 : Hid (∀ W, Calls Try.prog 81 #[] W fun e w' => (∃ A c, e = .returned (.slice A (digs (bin a 0)).length c) ∧ NF W.heap.size w' A c (digs (bin a 0))) ∧ Below W.heap.size W w') := fun W => by rw [bin_zero]; exact one_any W
  generalize hl0 : (digs (bin a 0)).length = l0 at HO1
  have HL0 := Lib.hid hl0
  clear hl0
  go_enter Try.func59, Try.ntmps59
  go_wp2_with (first
    | (go_at_call 81; (with_reducible refine (HO1.out _).mono ?_); rintro e w1 ⟨⟨A1, c1, rfl, hr1⟩, hb1⟩; have R1 := Lib.hid hr1; have D1 := Lib.hid hb1; clear hr1 hb1))
  have HR0 : Hid (RowsN w.heap.size (w1.alloc (.cells #[.slice A1 l0 c1] 47)) (some ⟨w1.heap.size, 0, none⟩) 1 [⟨A1, c1, digs (bin a 0)⟩]) := by
    have := RowsN.one (B := w.heap.size) w1 ⟨A1, c1, digs (bin a 0)⟩ R1.out.1 (R1.out.fromB (Nat.le_refl _)) D1.out.size
    unfold NRow.v at this
    dsimp only at this
    rwa [HL0.out] at this
  have D2 : Hid (Below w.heap.size w (w1.alloc (.cells #[.slice A1 l0 c1] 47))) := bel_on D1.out (alloc_bel w1 _)
  have HB0 : Hid (∀ i, i ≤ 0 → ∃ r, ([⟨A1, c1, digs (bin a 0)⟩] : List NRow)[i]? = some r ∧ r.l = digs (bin a i)) := fun i hi => by
    obtain rfl : i = 0 := by omega
    exact ⟨_, rfl, rfl⟩
  go_loopw [3, 4] (fun vr vb wr => ∃ (j : Nat) (A : Option Addr) (c : Nat) (rs : List NRow), j ≤ a ∧ vb = .int .i64 ((j : Int) + 1) ∧ vr = .slice A (j + 1) c ∧ Hid (rs.length = j + 1) ∧ Hid (RowsN w.heap.size wr A c rs) ∧ Hid (∀ i, i ≤ j → ∃ r, rs[i]? = some r ∧ r.l = digs (bin a i)) ∧ Below w.heap.size w wr) (fun _ vb _ => a + 1 - (intOf vb).toNat)
  case atStart => exact ⟨0, _, _, [⟨A1, c1, digs (bin a 0)⟩], by omega, rfl, rfl, rfl, HR0.out, HB0.out, D2.out⟩
  case round =>
    obtain ⟨j, A, c, rs, hj, rfl, rfl, HN, HR, HB, hbel⟩ := hrel
    by_cases hlt : j < a
    · have hji : (j : Int) + 1 ≤ a := by omega
      have hj0 : (0 : Int) ≤ j := by omega
      have hjn : (j : Int) < (j : Int) + 1 := by omega
      obtain ⟨bb, off, r, rfl, hbb, hr, hc, hnr⟩ := (HR.out.read (by rw [HN.out]; omega)).at_ (i := j) (by rw [HN.out]; omega)
      obtain ⟨r', hr', hl'⟩ := HB.out j (Nat.le_refl _)
      rw [hr] at hr'
      injection hr' with hr'
      subst hr'
      rw [hl'] at hc hnr
      clear hr hl'
      generalize r.A = X at hc hnr
      generalize r.c = x at hc hnr
      obtain ⟨k, hk⟩ : ∃ k, j + k = a := ⟨a - j, by omega⟩
      obtain ⟨n1, hn1⟩ : ∃ n1, j + 1 = n1 := ⟨_, rfl⟩
      have e0 : IntKind.i64.wrap (j : Int) = (j : Int) := by rw [IntKind.wrap_i64]; omega
      obtain ⟨q, hq⟩ : ∃ q, q + 1 = k := ⟨k - 1, by omega⟩
      have e1 : IntKind.i64.wrap ((a : Int) - ((j : Int) + 1)) = (q : Int) := by rw [IntKind.wrap_i64]; omega
      have e2 : IntKind.i64.wrap ((q : Int) + 1) = (k : Int) := by rw [IntKind.wrap_i64]; omega
      have e3 : IntKind.u64.wrap (k : Int) = (k : Int) := by rw [IntKind.wrap_u64]; omega
      have e4 : IntKind.u64.wrap ((j : Int) + 1) = (n1 : Int) := by rw [IntKind.wrap_u64]; omega
      obtain ⟨lj, hlj⟩ : ∃ l, (digs (bin a j)).length = l := ⟨_, rfl⟩
      obtain ⟨lk, hlk⟩ : ∃ l, (digs k).length = l := ⟨_, rfl⟩
      obtain ⟨ln, hln⟩ : ∃ l, (digs n1).length = l := ⟨_, rfl⟩
      obtain ⟨lp, hlp⟩ : ∃ l, (digs (bin a j * k)).length = l := ⟨_, rfl⟩
      obtain ⟨lq, hlq⟩ : ∃ l, (digs (bin a (j + 1))).length = l := ⟨_, rfl⟩
      rw [hlj] at hc
      have HOK : Hid (∀ W, Calls Try.prog 82 #[.int .u64 (k : Int)] W fun e w' => (∃ A c, e = .returned (.slice A lk c) ∧ NR w' A c (digs k)) ∧ Below W.heap.size W w') := fun W => by rw [← hlk]; exact ofD_any k W (by omega)
      have HOJ : Hid (∀ W, Calls Try.prog 82 #[.int .u64 (n1 : Int)] W fun e w' => (∃ A c, e = .returned (.slice A ln c) ∧ NR w' A c (digs n1)) ∧ Below W.heap.size W w') := fun W => by rw [← hln]; exact ofD_any n1 W (by omega)
      have HTM : Hid (∀ A' c' B' d' W, NR W A' c' (digs (bin a j)) → NR W B' d' (digs k) → Calls Try.prog 63 #[.slice A' lj c', .slice B' lk d'] W fun e w' => (∃ A c, e = .returned (.tuple #[.slice A lp c, .int .i64 0]) ∧ NR w' A c (digs (bin a j * k))) ∧ Below W.heap.size W w') := fun A' c' B' d' W h1 h2 => by rw [← hlp]; exact mulD_any (sm_bin_mul (by omega) (by omega)) (sm_bin (by omega)) (sm_small (by omega)) hlj hlk h1 h2
      have HPT : Hid (∀ A' c' B' d' W, NR W A' c' (digs (bin a j * k)) → NR W B' d' (digs n1) → Calls Try.prog 83 #[.slice A' lp c', .slice B' ln d'] W fun e w' => (∃ A c B d lr, e = .returned (.tuple #[.slice A lq c, .slice B lr d, .int .i64 0]) ∧ NF W.heap.size w' A c (digs (bin a (j + 1)))) ∧ Below W.heap.size W w') := fun A' c' B' d' W h1 h2 => by
        have := divF_any (x := bin a j * k) (y := n1) (sm_bin_mul (by omega) (by omega)) (sm_small (by omega)) (by omega) hlp hln h1 h2
        rwa [← hn1, bin_step hk, hlq] at this
      have HMU : Hid (∀ A n c W, Calls Try.prog 36 #[.slice A n c, .int .i64 0] W fun e w' => e = .returned (.slice A n c) ∧ Below W.heap.size W w') := fun A n c W => must_any A n c 0 W
      have HLQ := Lib.hid hlq
      have HK1 := Lib.hid hn1
      have HC := Lib.hid hc
      have HNRj := Lib.hid hnr
      generalize digs (bin a j) = dj at HTM HNRj
      generalize digs (bin a j * k) = dp at HTM HPT
      generalize digs k = dk at HOK HTM
      generalize digs n1 = dn at HOJ HPT
      clear hlj hlk hln hlp hlq hk hn1 hc hnr hq
      go_wp2_with fail

      have HS : Hid (∀ W, Below wr.heap.size wr W → W.cell? ⟨bb, off + j, none⟩ = some (.slice X lj x)) := fun W hW => (hW.cell (p := ⟨bb, off + j, none⟩) hbb).trans HC.out
      have E0 : Below wr.heap.size wr wr := Below.refl _ _
      refine wp_region_noPanic ?_
      refine wp_region_held_drew (S := fun W => W.cell? ⟨bb, off + j, none⟩ = some (.slice X lj x)) (by kernel_rfl) (HS.out _ E0.drew) (fun hS => ?_)
      have E0 := E0.drew
      refine hd_take 0 (_) rfl rfl (by kernel_rfl) (by kernel_rfl) (by kernel_rfl) (fun _ _ _ h => h) (fun w hw => by go_simp <;> rfl) hS ?_
      simp only [List.getElem_toArray, List.getElem_cons_succ, List.getElem_cons_zero, Act.put, List.setIfInBounds_toArray, List.set_cons_zero, List.set_cons_succ]
      refine hd_take 1 (_) rfl rfl (by kernel_rfl) (by kernel_rfl) (by kernel_rfl) (fun _ _ _ h => h) (fun w hw => by go_simp <;> rfl) hS ?_
      simp only [List.getElem_toArray, List.getElem_cons_succ, List.getElem_cons_zero, Act.put, List.setIfInBounds_toArray, List.set_cons_zero, List.set_cons_succ]
      refine hd_take 2 (.int .i64 (j : Int)) rfl rfl (by kernel_rfl) (by kernel_rfl) (by kernel_rfl) (fun _ _ _ h => h) (fun w hw => by have hx := e0; simp [go_sem, hx]) hS ?_
      simp only [List.getElem_toArray, List.getElem_cons_succ, List.getElem_cons_zero, Act.put, List.setIfInBounds_toArray, List.set_cons_zero, List.set_cons_succ]
      refine hd_take 3 (.pointer (some ⟨bb, off + j, none⟩)) rfl rfl (by kernel_rfl) (by kernel_rfl) (by kernel_rfl) (fun _ _ _ h => h) (fun w hw => by simp [go_sem, hjn, hj0]) hS ?_
      simp only [List.getElem_toArray, List.getElem_cons_succ, List.getElem_cons_zero, Act.put, List.setIfInBounds_toArray, List.set_cons_zero, List.set_cons_succ]
      refine hd_take 4 (.slice X lj x) rfl rfl (by kernel_rfl) (by kernel_rfl) (by kernel_rfl) (fun _ _ _ h => h) (fun w hw => by have hx := hw; simp [go_sem, hx]) hS ?_
      simp only [List.getElem_toArray, List.getElem_cons_succ, List.getElem_cons_zero, Act.put, List.setIfInBounds_toArray, List.set_cons_zero, List.set_cons_succ]
      refine hd_take 5 (_) rfl rfl (by kernel_rfl) (by kernel_rfl) (by kernel_rfl) (fun _ _ _ h => h) (fun w hw => by go_simp <;> rfl) hS ?_
      simp only [List.getElem_toArray, List.getElem_cons_succ, List.getElem_cons_zero, Act.put, List.setIfInBounds_toArray, List.set_cons_zero, List.set_cons_succ]
      refine hd_take 6 (_) rfl rfl (by kernel_rfl) (by kernel_rfl) (by kernel_rfl) (fun _ _ _ h => h) (fun w hw => by go_simp <;> rfl) hS ?_
      simp only [List.getElem_toArray, List.getElem_cons_succ, List.getElem_cons_zero, Act.put, List.setIfInBounds_toArray, List.set_cons_zero, List.set_cons_succ]
      refine hd_take 7 (.int .i64 (q : Int)) rfl rfl (by kernel_rfl) (by kernel_rfl) (by kernel_rfl) (fun _ _ _ h => h) (fun w hw => by have hx := e1; simp [go_sem, hx]) hS ?_
      simp only [List.getElem_toArray, List.getElem_cons_succ, List.getElem_cons_zero, Act.put, List.setIfInBounds_toArray, List.set_cons_zero, List.set_cons_succ]
      refine hd_take 8 (.int .i64 (k : Int)) rfl rfl (by kernel_rfl) (by kernel_rfl) (by kernel_rfl) (fun _ _ _ h => h) (fun w hw => by have hx := e2; simp [go_sem, hx]) hS ?_
      simp only [List.getElem_toArray, List.getElem_cons_succ, List.getElem_cons_zero, Act.put, List.setIfInBounds_toArray, List.set_cons_zero, List.set_cons_succ]
      refine hd_take 9 (.int .u64 (k : Int)) rfl rfl (by kernel_rfl) (by kernel_rfl) (by kernel_rfl) (fun _ _ _ h => h) (fun w hw => by have hx := e3; simp [go_sem, hx]) hS ?_
      simp only [List.getElem_toArray, List.getElem_cons_succ, List.getElem_cons_zero, Act.put, List.setIfInBounds_toArray, List.set_cons_zero, List.set_cons_succ]
      refine hd_calls 10 82 #[.int .u64 (k : Int)] rfl rfl (by kernel_rfl) (by go_simp <;> rfl) ?_
      refine (HOK.out _).mono ?_
      rintro e y1 ⟨⟨oA, oc, rfl, ho⟩, hb⟩
      have E1_ := bel_on E0 hb
      have hS1_ := HS.out _ E1_
      clear hb
      refine ⟨_, rfl, hS1_, ?_⟩
      simp only [List.getElem_toArray, List.getElem_cons_succ, List.getElem_cons_zero, Act.put, List.setIfInBounds_toArray, List.set_cons_zero, List.set_cons_succ]
      refine hd_calls 11 63 #[.slice X lj x, .slice oA lk oc] rfl rfl (by kernel_rfl) (by go_simp <;> rfl) ?_
      refine (HTM.out _ _ _ _ _ (HNRj.out.below E1_) ho).mono ?_
      rintro e y2 ⟨⟨pA, pc, rfl, hp⟩, hb⟩
      have E2_ := bel_on E1_ hb
      have hS2_ := HS.out _ E2_
      clear hb
      refine ⟨_, rfl, hS2_, ?_⟩
      simp only [List.getElem_toArray, List.getElem_cons_succ, List.getElem_cons_zero, Act.put, List.setIfInBounds_toArray, List.set_cons_zero, List.set_cons_succ]
      refine hd_take 12 (_) rfl rfl (by kernel_rfl) (by kernel_rfl) (by kernel_rfl) (fun _ _ _ h => h) (fun w hw => by go_simp <;> rfl) hS2_ ?_
      simp only [List.getElem_toArray, List.getElem_cons_succ, List.getElem_cons_zero, Act.put, List.setIfInBounds_toArray, List.set_cons_zero, List.set_cons_succ]
      refine hd_take 13 (_) rfl rfl (by kernel_rfl) (by kernel_rfl) (by kernel_rfl) (fun _ _ _ h => h) (fun w hw => by go_simp <;> rfl) hS2_ ?_
      simp only [List.getElem_toArray, List.getElem_cons_succ, List.getElem_cons_zero, Act.put, List.setIfInBounds_toArray, List.set_cons_zero, List.set_cons_succ]
      refine hd_calls 14 36 #[.slice pA lp pc, .int .i64 0] rfl rfl (by kernel_rfl) (by go_simp <;> rfl) ?_
      refine (HMU.out _ _ _ _).mono ?_
      rintro e y3 ⟨rfl, hb⟩
      have E3_ := bel_on E2_ hb
      have hS3_ := HS.out _ E3_
      have hp := hp.below hb
      clear hb
      refine ⟨_, rfl, hS3_, ?_⟩
      simp only [List.getElem_toArray, List.getElem_cons_succ, List.getElem_cons_zero, Act.put, List.setIfInBounds_toArray, List.set_cons_zero, List.set_cons_succ]
      refine hd_take 15 (_) rfl rfl (by kernel_rfl) (by kernel_rfl) (by kernel_rfl) (fun _ _ _ h => h) (fun w hw => by go_simp <;> rfl) hS3_ ?_
      simp only [List.getElem_toArray, List.getElem_cons_succ, List.getElem_cons_zero, Act.put, List.setIfInBounds_toArray, List.set_cons_zero, List.set_cons_succ]
      refine wpAnyH_done (by kernel_rfl) (NoPanic.normal ?_) _
      have E9 := Lib.hid (bel_on hbel E3_)
      have P9 := Lib.hid hp
      have R9 := Lib.hid (HR.out.below E3_)
      go_wp2_with (first
        | (go_at_call 82; (with_reducible refine (HOJ.out _).mono ?_); rintro e y4 ⟨⟨qA, qc, rfl, hq⟩, hb⟩; have Q4 := Lib.hid hq; have P4 := Lib.hid (P9.out.below hb); have E4 := Lib.hid (bel_on E9.out hb); have R4 := Lib.hid (R9.out.below hb); clear hq hb)
        | (go_at_call 83; (with_reducible refine (HPT.out _ _ _ _ _ P4.out Q4.out).mono ?_); rintro e y5 ⟨⟨sA, sc, tA, tc, lr, rfl, hs⟩, hb⟩; have S5 := Lib.hid hs; have E5 := Lib.hid (bel_on E4.out hb); have R5 := Lib.hid (R4.out.below hb); have A5 := Lib.hid (NF.apt R4.out hs (Nat.le_refl _)); clear hs hb)
        | (at_builtin; refine wpList_append_natrow _ rfl (.tmp 40) (.tmp 42) rfl w.heap.size (some ⟨bb, off, none⟩) (j + 1) c rs HN.out rfl (R5.out.below (alloc_bel _ _)).1 ⟨sA, sc, digs (bin a (j + 1))⟩ (some ⟨y5.heap.size, 0, none⟩) 1 rfl (by unfold NRow.v; rw [HLQ.out]; exact Src.one _ _ _) (by omega) (by have := E5.out.size; simp; omega) ?_; intro A6 c6 w6 ho6 hb6 hg6 hl6))
      have R6 : Hid (RowsN w.heap.size w6 A6 c6 (rs ++ [⟨sA, sc, digs (bin a (j + 1))⟩])) := by
        have := R5.out.below (alloc_bel y5 (.cells #[.slice sA lq sc] 47))
        refine RowsN.snoc this (S5.out.1.alloc _) (S5.out.fromB E4.out.size) A5.out ho6 (by rw [HN.out]; exact hg6) (by rw [HN.out]; exact hl6)
      have E6 : Hid (Below w.heap.size w w6) := (E5.out.alloc (by have := E5.out.size; omega) _).trans (hb6.mono (Nat.le_refl _))
      have HB6 : Hid (∀ i, i ≤ j + 1 → ∃ r, (rs ++ [⟨sA, sc, digs (bin a (j + 1))⟩])[i]? = some r ∧ r.l = digs (bin a i)) := fun i hi => by
        rcases Nat.lt_or_ge i (j + 1) with h1 | h1
        · obtain ⟨r, hr, hl⟩ := HB.out i (by omega)
          exact ⟨r, by rw [List.getElem?_append_left (by rw [HN.out]; omega)]; exact hr, hl⟩
        · obtain rfl : i = j + 1 := by omega
          exact ⟨_, by rw [List.getElem?_append_right (by rw [HN.out]; omega), HN.out, Nat.sub_self]; rfl, rfl⟩
      clear ho6 hb6 hg6 hl6 hS
      go_roundw
      case rel => exact ⟨j + 1, A6, c6, _, by omega, by go_num, rfl, by unfold Hid; rw [List.length_append, HN.out]; rfl, R6.out, HB6.out, E6.out⟩
      case measure => simp [intOf]; omega
    · obtain rfl : j = a := by omega
      have hx : ¬ ((j : Int) + 1 ≤ j) := by omega
      go_wp2_with fail
      go_ret
      exact ⟨⟨A, c, rfl, HR.out.bin HN.out (by omega) HB.out⟩, hbel⟩
end Go.Proofs.Ytenpkmgbaajeeaa

/- Limits; whether a code of steps is valid; within: both sides. -/
namespace Go.Proofs.Ytenpkmgbaajeeaa
open Go.RowKit
set_option linter.unusedVariables false
set_option linter.unusedSimpArgs false

/-- A limit. -/
def limB (a b : List Nat) : Bool := vfB a b && (decide (a.length ≤ 4) && (decide (b.length ≤ 4) && decide (val a < val b)))
theorem limB_iff {a b : List Nat} : limB a b = true ↔ vfB a b = true ∧ a.length ≤ 4 ∧ b.length ≤ 4 ∧ val a < val b := by unfold limB; simp
theorem limB_no {a b : List Nat} (h : ¬ (vfB a b = true ∧ a.length ≤ 4 ∧ b.length ≤ 4 ∧ val a < val b)) : limB a b = false := by
  cases hl : limB a b
  · rfl
  · exact absurd (limB_iff.1 hl) h
theorem vfB_both {a b : List Nat} (h : vfB a b = true) : bothB a b = true := by unfold vfB at h; simp at h; exact h.1.1
theorem cmpS_both {a b : List Nat} (h : bothB a b = true) : cmpS a b = (cmpN (val a) (val b), 0) := by unfold cmpS; rw [if_pos h]
theorem cmpN_neg (x y : Nat) : decide (cmpN x y < 0) = decide (x < y) := by
  rcases cmpN_cases x y with ⟨h, e⟩ | ⟨h, e⟩ | ⟨h, e⟩ <;> rw [e]
  · exact (decide_eq_true h).symm
  · exact (decide_eq_false (by omega)).symm
  · exact (decide_eq_false (by omega)).symm
theorem cmpN_nonpos (x y : Nat) : decide (cmpN x y ≤ 0) = decide (x ≤ y) := by
  rcases cmpN_cases x y with ⟨h, e⟩ | ⟨h, e⟩ | ⟨h, e⟩ <;> rw [e]
  · exact (decide_eq_true (by omega)).symm
  · exact (decide_eq_false (by omega)).symm
  · exact (decide_eq_true (by omega)).symm

set_option maxHeartbeats 4000000 in
set_option maxRecDepth 100000 in
theorem isLimit_any (A : Option Addr) (ca : Nat) (a : List Nat) (Bd : Option Addr) (cb : Nat) (b : List Nat) (w : World) {na nb : Nat} (hna : a.length = na) (hnb : b.length = nb) (ha : NR w A ca a) (hb : NR w Bd cb b) :
    Calls Try.prog 71 #[.agg #[.slice A na ca, .slice Bd nb cb]] w fun e w' => e = .returned (.bool (limB a b)) ∧ Below w.heap.size w w' := by
  obtain ⟨W0, hW0⟩ : ∃ W : World, W = w.alloc (.cells #[.slice A na ca, .slice Bd nb cb] 49) := ⟨_, rfl⟩
  have b0 : Hid (Below w.heap.size w W0) := by unfold Hid; rw [hW0]; exact alloc_below _ _
  have x0 : Hid (Blk W0 w.heap.size 49 #[.slice A na ca, .slice Bd nb cb]) := by unfold Hid; rw [hW0]; exact Blk.new w _ _
  have hai : (na : Int) ≤ 9223372036854775807 := by have := ha.len; omega
  have hbi : (nb : Int) ≤ 9223372036854775807 := by have := hb.len; omega
  have HW0 := Lib.hid hW0
  have HCF : Hid (∀ W, Below w.heap.size w W → Calls Try.prog 97 #[.agg #[.slice A na ca, .slice Bd nb cb]] W fun e w' => e = .returned (.int .i64 (cfS a b)) ∧ Below W.heap.size W w') := fun W hW => CheckFraction_any A ca a Bd cb b W hna hnb (ha.below hW) (hb.below hW)
  have HCM : Hid (∀ W, Below w.heap.size w W → Calls Try.prog 98 #[.slice A na ca, .slice Bd nb cb] W fun e w' => e = .returned (.tuple #[.int .i64 (cmpS a b).1, .int .i64 (cmpS a b).2]) ∧ Below W.heap.size W w') := fun W hW => Compare_any A ca a Bd cb b W hna hnb (ha.below hW) (hb.below hW)
  cases hv : vfB a b with
  | false =>
    have HS : Hid (Ending.returned (.bool false) = .returned (.bool (limB a b))) := by unfold Hid; rw [limB_no (by rw [hv]; simp)]
    rw [show cfS a b = 8 from by unfold cfS; rw [hv]; rfl] at HCF
    clear hW0 ha hb hna hnb hv
    go_enter Try.func71, Try.ntmps71
    go_wp2_with (first
    | ((first | rw [← HW0.out] | skip); refine wpList_load_row rfl 49 (.tmp 1) rfl (w.heap.size) rfl 49 #[.slice A na ca, .slice Bd nb cb] (0, 0) _ x0.out Try.underlying49 rfl (by kernel_rfl) ?_)
    | (go_at_call 97; (with_reducible refine (HCF.out _ b0.out).mono ?_); rintro e w1 ⟨rfl, hb⟩; have D1 := Lib.hid (bel_on b0.out hb); have x1 := Lib.hid (x0.out.below' hb); clear hb; have k0 := x1.out.cell 0; have k1 := x1.out.cell 1)
    | (go_at_call 98; (with_reducible refine (HCM.out _ D1.out).mono ?_); rintro e w2 ⟨rfl, hb⟩; have D2 := Lib.hid (bel_on D1.out hb); clear hb))
    all_goals first | omega | (go_ret; exact ⟨HS.out, D1.out⟩)
  | true =>
    rw [show cfS a b = 0 from by unfold cfS; rw [hv]; rfl] at HCF
    rw [cmpS_both (vfB_both hv)] at HCM
    by_cases hl : na ≤ 4 ∧ nb ≤ 4
    · have hl1 : (na : Int) ≤ 4 := by omega
      have hl2 : (nb : Int) ≤ 4 := by omega
      have hq : limB a b = decide (val a < val b) := by
        unfold limB
        rw [hv, decide_eq_true (show a.length ≤ 4 by omega), decide_eq_true (show b.length ≤ 4 by omega)]; rfl
      obtain ⟨z, hz⟩ : ∃ z, cmpN (val a) (val b) = z := ⟨_, rfl⟩
      rw [hz] at HCM
      have HS : Hid (∀ q, Ending.returned (.bool (decide (q < (0 : Int)))) = .returned (.bool (decide (q < (0 : Int))))) := fun q => rfl
      have HT : Hid (decide (z < 0) = limB a b) := by unfold Hid; rw [hq, ← hz]; exact cmpN_neg _ _
      clear hW0 ha hb hna hnb hv hl hq hz
      go_enter Try.func71, Try.ntmps71
      go_wp2_with (first
    | ((first | rw [← HW0.out] | skip); refine wpList_load_row rfl 49 (.tmp 1) rfl (w.heap.size) rfl 49 #[.slice A na ca, .slice Bd nb cb] (0, 0) _ x0.out Try.underlying49 rfl (by kernel_rfl) ?_)
    | (go_at_call 97; (with_reducible refine (HCF.out _ b0.out).mono ?_); rintro e w1 ⟨rfl, hb⟩; have D1 := Lib.hid (bel_on b0.out hb); have x1 := Lib.hid (x0.out.below' hb); clear hb; have k0 := x1.out.cell 0; have k1 := x1.out.cell 1)
    | (go_at_call 98; (with_reducible refine (HCM.out _ D1.out).mono ?_); rintro e w2 ⟨rfl, hb⟩; have D2 := Lib.hid (bel_on D1.out hb); clear hb))
      all_goals first | omega | (go_ret; refine ⟨?_, D2.out⟩; rw [← HT.out]; rfl)
    · have HS : Hid (Ending.returned (.bool false) = .returned (.bool (limB a b))) := by unfold Hid; rw [limB_no (by omega)]
      have hl' : 4 < (na : Int) ∨ 4 < (nb : Int) := by omega
      clear hW0 ha hb hna hnb hv hl HCM
      go_enter Try.func71, Try.ntmps71
      go_wp2_with (first
    | ((first | rw [← HW0.out] | skip); refine wpList_load_row rfl 49 (.tmp 1) rfl (w.heap.size) rfl 49 #[.slice A na ca, .slice Bd nb cb] (0, 0) _ x0.out Try.underlying49 rfl (by kernel_rfl) ?_)
    | (go_at_call 97; (with_reducible refine (HCF.out _ b0.out).mono ?_); rintro e w1 ⟨rfl, hb⟩; have D1 := Lib.hid (bel_on b0.out hb); have x1 := Lib.hid (x0.out.below' hb); clear hb; have k0 := x1.out.cell 0; have k1 := x1.out.cell 1)
    | (go_at_call 98; (with_reducible refine (HCM.out _ D1.out).mono ?_); rintro e w2 ⟨rfl, hb⟩; have D2 := Lib.hid (bel_on D1.out hb); clear hb))
      all_goals first | omega | (go_ret; exact ⟨HS.out, D1.out⟩)
set_option maxHeartbeats 4000000 in
set_option maxRecDepth 100000 in
theorem refIsLimit_any (A : Option Addr) (ca : Nat) (a : List Nat) (Bd : Option Addr) (cb : Nat) (b : List Nat) (w : World) {na nb : Nat} (hna : a.length = na) (hnb : b.length = nb) (ha : NR w A ca a) (hb : NR w Bd cb b) :
    Calls Try.prog 73 #[.agg #[.slice A na ca, .slice Bd nb cb]] w fun e w' => e = .returned (.bool (limB a b)) ∧ Below w.heap.size w w' := by
  obtain ⟨W0, hW0⟩ : ∃ W : World, W = w.alloc (.cells #[.slice A na ca, .slice Bd nb cb] 49) := ⟨_, rfl⟩
  have b0 : Hid (Below w.heap.size w W0) := by unfold Hid; rw [hW0]; exact alloc_below _ _
  have x0 : Hid (Blk W0 w.heap.size 49 #[.slice A na ca, .slice Bd nb cb]) := by unfold Hid; rw [hW0]; exact Blk.new w _ _
  have hai : (na : Int) ≤ 9223372036854775807 := by have := ha.len; omega
  have hbi : (nb : Int) ≤ 9223372036854775807 := by have := hb.len; omega
  have HW0 := Lib.hid hW0
  have HCF : Hid (∀ W, Below w.heap.size w W → Calls Try.prog 99 #[.agg #[.slice A na ca, .slice Bd nb cb]] W fun e w' => e = .returned (.bool (vfB a b)) ∧ Below W.heap.size W w') := fun W hW => refValidFraction_any A ca a Bd cb b W hna hnb (ha.below hW) (hb.below hW)
  have HCM : Hid (∀ W, Below w.heap.size w W → Calls Try.prog 94 #[.slice A na ca, .slice Bd nb cb] W fun e w' => e = .returned (.int .i64 (cmpN (val a) (val b))) ∧ Below W.heap.size W w') := fun W hW => (refOrder_any A ca a Bd cb b W hna hnb (ha.below hW) (hb.below hW)).mono fun e w' ⟨h1, h2⟩ => ⟨h1, h2 ▸ Below.refl _ _⟩
  cases hv : vfB a b with
  | false =>
    have HS : Hid (Ending.returned (.bool false) = .returned (.bool (limB a b))) := by unfold Hid; rw [limB_no (by rw [hv]; simp)]
    rw [hv] at HCF
    clear hW0 ha hb hna hnb hv
    go_enter Try.func73, Try.ntmps73
    go_wp2_with (first
    | ((first | rw [← HW0.out] | skip); refine wpList_load_row rfl 49 (.tmp 1) rfl (w.heap.size) rfl 49 #[.slice A na ca, .slice Bd nb cb] (0, 0) _ x0.out Try.underlying49 rfl (by kernel_rfl) ?_)
    | (go_at_call 99; (with_reducible refine (HCF.out _ b0.out).mono ?_); rintro e w1 ⟨rfl, hb⟩; have D1 := Lib.hid (bel_on b0.out hb); have x1 := Lib.hid (x0.out.below' hb); clear hb; have k0 := x1.out.cell 0; have k1 := x1.out.cell 1)
    | (go_at_call 94; (with_reducible refine (HCM.out _ D1.out).mono ?_); rintro e w2 ⟨rfl, hb⟩; have D2 := Lib.hid (bel_on D1.out hb); clear hb))
    all_goals first | omega | (go_ret; exact ⟨HS.out, D1.out⟩)
  | true =>
    rw [hv] at HCF
    by_cases hl : na ≤ 4 ∧ nb ≤ 4
    · have hl1 : (na : Int) ≤ 4 := by omega
      have hl2 : (nb : Int) ≤ 4 := by omega
      have hq : limB a b = decide (val a < val b) := by
        unfold limB
        rw [hv, decide_eq_true (show a.length ≤ 4 by omega), decide_eq_true (show b.length ≤ 4 by omega)]; rfl
      obtain ⟨z, hz⟩ : ∃ z, cmpN (val a) (val b) = z := ⟨_, rfl⟩
      rw [hz] at HCM
      have HS : Hid (∀ q, Ending.returned (.bool (decide (q < (0 : Int)))) = .returned (.bool (decide (q < (0 : Int))))) := fun q => rfl
      have HT : Hid (decide (z < 0) = limB a b) := by unfold Hid; rw [hq, ← hz]; exact cmpN_neg _ _
      clear hW0 ha hb hna hnb hv hl hq hz
      go_enter Try.func73, Try.ntmps73
      go_wp2_with (first
    | ((first | rw [← HW0.out] | skip); refine wpList_load_row rfl 49 (.tmp 1) rfl (w.heap.size) rfl 49 #[.slice A na ca, .slice Bd nb cb] (0, 0) _ x0.out Try.underlying49 rfl (by kernel_rfl) ?_)
    | (go_at_call 99; (with_reducible refine (HCF.out _ b0.out).mono ?_); rintro e w1 ⟨rfl, hb⟩; have D1 := Lib.hid (bel_on b0.out hb); have x1 := Lib.hid (x0.out.below' hb); clear hb; have k0 := x1.out.cell 0; have k1 := x1.out.cell 1)
    | (go_at_call 94; (with_reducible refine (HCM.out _ D1.out).mono ?_); rintro e w2 ⟨rfl, hb⟩; have D2 := Lib.hid (bel_on D1.out hb); clear hb))
      all_goals first | omega | (go_ret; refine ⟨?_, D2.out⟩; rw [← HT.out]; rfl)
    · have HS : Hid (Ending.returned (.bool false) = .returned (.bool (limB a b))) := by unfold Hid; rw [limB_no (by omega)]
      have hl' : 4 < (na : Int) ∨ 4 < (nb : Int) := by omega
      clear hW0 ha hb hna hnb hv hl HCM
      go_enter Try.func73, Try.ntmps73
      go_wp2_with (first
    | ((first | rw [← HW0.out] | skip); refine wpList_load_row rfl 49 (.tmp 1) rfl (w.heap.size) rfl 49 #[.slice A na ca, .slice Bd nb cb] (0, 0) _ x0.out Try.underlying49 rfl (by kernel_rfl) ?_)
    | (go_at_call 99; (with_reducible refine (HCF.out _ b0.out).mono ?_); rintro e w1 ⟨rfl, hb⟩; have D1 := Lib.hid (bel_on b0.out hb); have x1 := Lib.hid (x0.out.below' hb); clear hb; have k0 := x1.out.cell 0; have k1 := x1.out.cell 1)
    | (go_at_call 94; (with_reducible refine (HCM.out _ D1.out).mono ?_); rintro e w2 ⟨rfl, hb⟩; have D2 := Lib.hid (bel_on D1.out hb); clear hb))
      all_goals first | omega | (go_ret; exact ⟨HS.out, D1.out⟩)
end Go.Proofs.Ytenpkmgbaajeeaa

/- Codes of steps in memory; whether one is valid: both sides. -/
namespace Go.Proofs.Ytenpkmgbaajeeaa
open Go.RowKit
set_option linter.unusedVariables false
set_option linter.unusedSimpArgs false

/-- A code of steps and where its limit lies. -/
structure StV where
  u : Int
  b : Int
  k : List UInt8
  A : Option Addr
  ca : Nat
  x : List Nat
  Bd : Option Addr
  cb : Nat
  y : List Nat
def StV.cs (s : StV) : List Value := .int .i64 s.u :: .int .i64 s.b :: (cellsB s.k ++ [.slice s.A s.x.length s.ca, .slice s.Bd s.y.length s.cb])
structure StOK (w : World) (s : StV) : Prop where
  k16 : s.k.length = 16
  hx : NR w s.A s.ca s.x
  hy : NR w s.Bd s.cb s.y
theorem StOK.below {w w' : World} {s : StV} (h : StOK w s) (hb : Below w.heap.size w w') : StOK w' s := ⟨h.k16, h.hx.below hb, h.hy.below hb⟩
theorem StV.len {s : StV} (h : s.k.length = 16) : s.cs.length = 20 := by simp [StV.cs, cellsB_length, h]
theorem StV.c0 (s : StV) : s.cs.toArray[0]? = some (.int .i64 s.u) := by simp [StV.cs]
theorem StV.c1 (s : StV) : s.cs.toArray[1]? = some (.int .i64 s.b) := by simp [StV.cs]
theorem StV.c18 {s : StV} (h : s.k.length = 16) : s.cs.toArray[18]? = some (.slice s.A s.x.length s.ca) := by
  have e : (cellsB s.k).length = 16 := by rw [cellsB_length, h]
  simp [StV.cs, List.getElem?_append, e]
theorem StV.c19 {s : StV} (h : s.k.length = 16) : s.cs.toArray[19]? = some (.slice s.Bd s.y.length s.cb) := by
  have e : (cellsB s.k).length = 16 := by rw [cellsB_length, h]
  simp [StV.cs, List.getElem?_append, e]
theorem StV.all (s : StV) : s.cs.toArray.all (·.oneCell') = true := by
  have := cellsB_one s.k
  simp [StV.cs, Value.oneCell']
  exact this
theorem StV.info {s : StV} (h : s.k.length = 16) : (Try.prog.info? 51).map (·.size) = some s.cs.toArray.size := by
  rw [List.size_toArray, StV.len h]; kernel_rfl
/-- The cells of a box that holds the code. -/
theorem StV.cells {w : World} {g : Nat} {s : StV} (hk : s.k.length = 16) (h : Blk w g 51 s.cs.toArray) :
    w.cell? ⟨g, 0, none⟩ = some (.int .i64 s.u) ∧ w.cell? ⟨g, 1, none⟩ = some (.int .i64 s.b) ∧ w.cell? ⟨g, 18, none⟩ = some (.slice s.A s.x.length s.ca) ∧ w.cell? ⟨g, 19, none⟩ = some (.slice s.Bd s.y.length s.cb) :=
  ⟨(h.cell 0).trans s.c0, (h.cell 1).trans s.c1, (h.cell 18).trans (StV.c18 hk), (h.cell 19).trans (StV.c19 hk)⟩
def stOkB (u b : Int) (l : Bool) : Bool := decide (2 ≤ u ∧ u ≤ 16 ∧ 1 ≤ b ∧ b ≤ 64) && l
def StV.ok (s : StV) : Bool := stOkB s.u s.b (limB s.x s.y)
def ckSt (b : Bool) : Int := if b = true then 0 else 70
theorem StV.parts {s : StV} (h : s.ok = true) : (2 ≤ s.u ∧ s.u ≤ 16 ∧ 1 ≤ s.b ∧ s.b ≤ 64) ∧ limB s.x s.y = true := by
  unfold StV.ok stOkB at h
  simpa using h

set_option maxHeartbeats 4000000 in
set_option maxRecDepth 100000 in
theorem CheckSteps_any (s : StV) (w : World) (h : StOK w s) :
    Calls Try.prog 45 #[.agg s.cs.toArray] w fun e w' => e = .returned (.int .i64 (ckSt s.ok)) ∧ Below w.heap.size w w' := by
  have HL : Hid (∀ W, Below w.heap.size w W → Calls Try.prog 71 #[.agg #[.slice s.A s.x.length s.ca, .slice s.Bd s.y.length s.cb]] W fun e w' => e = .returned (.bool (limB s.x s.y)) ∧ Below W.heap.size W w') := fun W hW => isLimit_any s.A s.ca s.x s.Bd s.cb s.y W rfl rfl (h.hx.below hW) (h.hy.below hW)
  obtain ⟨W0, hW0⟩ : ∃ W : World, W = w.alloc (.cells s.cs.toArray 51) := ⟨_, rfl⟩
  have b0 : Hid (Below w.heap.size w W0) := by unfold Hid; rw [hW0]; exact alloc_below _ _
  have x0 : Blk W0 w.heap.size 51 s.cs.toArray := by rw [hW0]; exact Blk.new w _ _
  obtain ⟨k0, k1, k18, k19⟩ := StV.cells h.k16 x0
  have HW0 := Lib.hid hW0
  unfold StV.ok
  clear x0 hW0 h
  obtain ⟨u, hu⟩ : ∃ u, s.u = u := ⟨_, rfl⟩
  obtain ⟨b, hb⟩ : ∃ b, s.b = b := ⟨_, rfl⟩
  rw [hu] at k0 ⊢
  rw [hb] at k1 ⊢
  obtain ⟨A, hA⟩ : ∃ A, s.A = A := ⟨_, rfl⟩
  obtain ⟨Bd, hB⟩ : ∃ A, s.Bd = A := ⟨_, rfl⟩
  obtain ⟨n, hn⟩ : ∃ n, s.x.length = n := ⟨_, rfl⟩
  obtain ⟨m, hm⟩ : ∃ n, s.y.length = n := ⟨_, rfl⟩
  obtain ⟨ca, hca⟩ : ∃ n, s.ca = n := ⟨_, rfl⟩
  obtain ⟨cb, hcb⟩ : ∃ n, s.cb = n := ⟨_, rfl⟩
  rw [hA, hn, hca] at k18 HL
  rw [hB, hm, hcb] at k19 HL
  generalize limB s.x s.y = l at HL ⊢
  clear hu hb hA hB hn hm hca hcb
  obtain ⟨cs, hcs⟩ : ∃ c, s.cs.toArray = c := ⟨_, rfl⟩
  rw [hcs] at HW0 ⊢
  clear hcs
  by_cases hr : 2 ≤ u ∧ u ≤ 16 ∧ 1 ≤ b ∧ b ≤ 64
  · obtain ⟨r1, r2, r3, r4⟩ := hr
    cases l with
    | true =>
      have HS : Hid (Ending.returned (.int .i64 0) = .returned (.int .i64 (ckSt (stOkB u b true)))) := by unfold Hid; rw [show stOkB u b true = true from by unfold stOkB; rw [decide_eq_true ⟨r1, r2, r3, r4⟩]; rfl] <;> rfl
      go_enter Try.func45, Try.ntmps45
      go_wp2_with (first | (rw [← HW0.out]) | (go_at_call 71; (with_reducible refine (HL.out _ b0.out).mono ?_); rintro e w1 ⟨rfl, hb⟩; have D1 := Lib.hid (bel_on b0.out hb); clear hb))
      all_goals first | omega | (go_ret; refine ⟨?_, D1.out⟩; exact HS.out)
    | false =>
      have HS : Hid (Ending.returned (.int .i64 70) = .returned (.int .i64 (ckSt (stOkB u b false)))) := by unfold Hid; rw [show stOkB u b false = false from by unfold stOkB; rw [decide_eq_true ⟨r1, r2, r3, r4⟩]; rfl] <;> rfl
      go_enter Try.func45, Try.ntmps45
      go_wp2_with (first | (rw [← HW0.out]) | (go_at_call 71; (with_reducible refine (HL.out _ b0.out).mono ?_); rintro e w1 ⟨rfl, hb⟩; have D1 := Lib.hid (bel_on b0.out hb); clear hb))
      all_goals first | omega | (go_ret; refine ⟨?_, D1.out⟩; exact HS.out)
  · have HS : Hid (Ending.returned (.int .i64 70) = .returned (.int .i64 (ckSt (stOkB u b l)))) := by unfold Hid; rw [show stOkB u b l = false from by unfold stOkB; rw [decide_eq_false hr]; rfl] <;> rfl
    have hr' : u < 2 ∨ 16 < u ∨ b < 1 ∨ 64 < b := by omega
    clear hr HL
    go_enter Try.func45, Try.ntmps45
    go_wp2_with (first | (rw [← HW0.out]) | (go_at_call 71; (with_reducible refine (HL.out _ b0.out).mono ?_); rintro e w1 ⟨rfl, hb⟩; have D1 := Lib.hid (bel_on b0.out hb); clear hb))
    all_goals first | omega | (go_ret; refine ⟨?_, b0.out⟩; exact HS.out)
set_option maxHeartbeats 4000000 in
set_option maxRecDepth 100000 in
theorem refValidSteps_any (s : StV) (w : World) (h : StOK w s) :
    Calls Try.prog 47 #[.agg s.cs.toArray] w fun e w' => e = .returned (.bool s.ok) ∧ Below w.heap.size w w' := by
  have HL : Hid (∀ W, Below w.heap.size w W → Calls Try.prog 73 #[.agg #[.slice s.A s.x.length s.ca, .slice s.Bd s.y.length s.cb]] W fun e w' => e = .returned (.bool (limB s.x s.y)) ∧ Below W.heap.size W w') := fun W hW => refIsLimit_any s.A s.ca s.x s.Bd s.cb s.y W rfl rfl (h.hx.below hW) (h.hy.below hW)
  obtain ⟨W0, hW0⟩ : ∃ W : World, W = w.alloc (.cells s.cs.toArray 51) := ⟨_, rfl⟩
  have b0 : Hid (Below w.heap.size w W0) := by unfold Hid; rw [hW0]; exact alloc_below _ _
  have x0 : Blk W0 w.heap.size 51 s.cs.toArray := by rw [hW0]; exact Blk.new w _ _
  obtain ⟨k0, k1, k18, k19⟩ := StV.cells h.k16 x0
  have HW0 := Lib.hid hW0
  unfold StV.ok
  clear x0 hW0 h
  obtain ⟨u, hu⟩ : ∃ u, s.u = u := ⟨_, rfl⟩
  obtain ⟨b, hb⟩ : ∃ b, s.b = b := ⟨_, rfl⟩
  rw [hu] at k0 ⊢
  rw [hb] at k1 ⊢
  obtain ⟨A, hA⟩ : ∃ A, s.A = A := ⟨_, rfl⟩
  obtain ⟨Bd, hB⟩ : ∃ A, s.Bd = A := ⟨_, rfl⟩
  obtain ⟨n, hn⟩ : ∃ n, s.x.length = n := ⟨_, rfl⟩
  obtain ⟨m, hm⟩ : ∃ n, s.y.length = n := ⟨_, rfl⟩
  obtain ⟨ca, hca⟩ : ∃ n, s.ca = n := ⟨_, rfl⟩
  obtain ⟨cb, hcb⟩ : ∃ n, s.cb = n := ⟨_, rfl⟩
  rw [hA, hn, hca] at k18 HL
  rw [hB, hm, hcb] at k19 HL
  generalize limB s.x s.y = l at HL ⊢
  clear hu hb hA hB hn hm hca hcb
  obtain ⟨cs, hcs⟩ : ∃ c, s.cs.toArray = c := ⟨_, rfl⟩
  rw [hcs] at HW0 ⊢
  clear hcs
  by_cases hr : 2 ≤ u ∧ u ≤ 16 ∧ 1 ≤ b ∧ b ≤ 64
  · obtain ⟨r1, r2, r3, r4⟩ := hr
    cases l with
    | true =>
      have HS : Hid (Ending.returned (.bool true) = .returned (.bool (stOkB u b true))) := by unfold Hid; rw [show stOkB u b true = true from by unfold stOkB; rw [decide_eq_true ⟨r1, r2, r3, r4⟩]; rfl] <;> rfl
      go_enter Try.func47, Try.ntmps47
      go_wp2_with (first | (rw [← HW0.out]) | (go_at_call 73; (with_reducible refine (HL.out _ b0.out).mono ?_); rintro e w1 ⟨rfl, hb⟩; have D1 := Lib.hid (bel_on b0.out hb); clear hb))
      all_goals first | omega | (go_ret; refine ⟨?_, D1.out⟩; exact HS.out)
    | false =>
      have HS : Hid (Ending.returned (.bool false) = .returned (.bool (stOkB u b false))) := by unfold Hid; rw [show stOkB u b false = false from by unfold stOkB; rw [decide_eq_true ⟨r1, r2, r3, r4⟩]; rfl] <;> rfl
      go_enter Try.func47, Try.ntmps47
      go_wp2_with (first | (rw [← HW0.out]) | (go_at_call 73; (with_reducible refine (HL.out _ b0.out).mono ?_); rintro e w1 ⟨rfl, hb⟩; have D1 := Lib.hid (bel_on b0.out hb); clear hb))
      all_goals first | omega | (go_ret; refine ⟨?_, D1.out⟩; exact HS.out)
  · have HS : Hid (Ending.returned (.bool false) = .returned (.bool (stOkB u b l))) := by unfold Hid; rw [show stOkB u b l = false from by unfold stOkB; rw [decide_eq_false hr]; rfl] <;> rfl
    have hr' : u < 2 ∨ 16 < u ∨ b < 1 ∨ 64 < b := by omega
    clear hr HL
    go_enter Try.func47, Try.ntmps47
    go_wp2_with (first | (rw [← HW0.out]) | (go_at_call 73; (with_reducible refine (HL.out _ b0.out).mono ?_); rintro e w1 ⟨rfl, hb⟩; have D1 := Lib.hid (bel_on b0.out hb); clear hb))
    all_goals first | omega | (go_ret; refine ⟨?_, b0.out⟩; exact HS.out)
end Go.Proofs.Ytenpkmgbaajeeaa
