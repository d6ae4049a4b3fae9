/-
  What the frames of the laws share: bytes, keys, integers, and rows of these among the arguments, opened.
-/
import Derived.Test.YtinpiodfpnbllaaFrameAid
import Derived.Test.YtinpiodfpnbllaaMemR
import Derived.SizedLaws
import Derived.Deep.Slices
namespace Go.Proofs.Ytinpiodfpnbllaa
open Go.ChangeShapes Go.WideShapes Go.ChangeAt Go.RowKit Go.Deep
set_option linter.unusedVariables false

theorem weights_of_ {H : Type} {P : Program} {ts : List TypeId} {ds : List (DataW H)} (h : (DataW.weightsEach P ts ds).all (· ≤ reachBytes) = true) {j : Nat} {t : TypeId} {d : DataW H} (ht : ts[j]? = some t) (hd : ds[j]? = some d) :
    ∀ n ∈ d.weights P t, n ≤ reachBytes := fun n hn => by
  simpa using List.all_eq_true.1 h _ (DataW.weights_mem_each ht hd n hn)
theorem weights_all_mem {H : Type} {P : Program} {e : TypeId} {l : List (DataW H)} {d : DataW H} (hd : d ∈ l) {n : Nat} (hn : n ∈ d.weights P e) : n ∈ DataW.weightsAll P e l := by
  induction l with
  | nil => cases hd
  | cons x l ih =>
    rcases List.mem_cons.1 hd with rfl | h
    · exact List.mem_append.2 (.inl hn)
    · exact List.mem_append.2 (.inr (ih h))

/-- A slice that came in, element by element. -/
theorem slice_of_trod {H : Type} {enc : TypeId × Value → H} {P : Program} {W : World} {fuel : Nat} {t e : TypeId} {cs : List Value} {x : DataW H × List MemPlace} {s by_ : Nat} (ht : P.underlying t = some (.slice e)) (hs : P.cellsOf e = s) (hs0 : 0 < s) (hby : P.bytesOf e = by_) (h : DataW.trod enc P W 0 (fun _ => true) true fuel t cs = some x)
    (hw : ∀ n ∈ x.1.weights P t, n ≤ reachBytes) :
    ∃ (A : Option Addr) (len cap m : Nat) (C : Nat → List Value) (D : Nat → DataW H × List MemPlace), cs = [.slice A len cap] ∧ len ≤ cap ∧ cap ≤ 9223372036854775807 ∧ cap * by_ ≤ 140737488351232 ∧
      (len ≠ 0 → ∃ b off, A = some ⟨b, off, none⟩ ∧ b < W.heap.size ∧ ∀ i, i < len → ∀ j v, (C i)[j]? = some v → W.cell? ⟨b, off + (i * s + j), none⟩ = some v) ∧
      ∀ i, i < len → (C i).length = s ∧ DataW.trod enc P W 0 (fun _ => true) true m e (C i) = some (D i) ∧ ∀ n ∈ (D i).1.weights P e, n ≤ reachBytes := by
  rcases open_slice ht h with ⟨rfl, rfl⟩ | ⟨a, len, cap, m, n, D, Pl, rfl, _, hle, hm, hmm, rfl, hx⟩
  · exact ⟨none, 0, 0, 0, fun _ => [], fun _ => (.nil, []), rfl, Nat.le_refl _, by omega, by omega, fun h => absurd rfl h, fun i hi => absurd hi (by omega)⟩
  · simp only [if_true] at hmm
    subst hmm
    have hcap : m * by_ ≤ 140737488351232 := by
      have := hw ((len + (m - len)) * by_) (by simp [DataW.weights, ht, hby])
      simp only [reachBytes] at this
      rw [show len + (m - len) = m from by omega] at this
      exact this
    obtain ⟨C, hC⟩ := choose_lt (α := List Value) (p := fun i cs' => W.cells? 0 (a.add (i * P.cellsOf e)) (P.cellsOf e) = some cs' ∧ DataW.trod enc P W 0 (fun _ => true) true n e cs' = some (D i, Pl i)) (fun i hi => hx i hi)
    refine ⟨some a, len, m, n, C, fun i => (D i, Pl i), rfl, hle, by simpa [maxLen] using hm, hcap, fun h0 => ?_, fun i hi => ?_⟩
    · have h0' := hC 0 (by omega)
      obtain ⟨_, hl0, hc0⟩ := World.cells?_some h0'.1
      rw [hs] at hl0 hc0
      have hc00 := hc0 0 hs0
      rw [Nat.zero_mul, add_add, List.getElem?_eq_getElem (show 0 < (C 0).length by omega)] at hc00
      obtain ⟨b, off, spot⟩ := a
      have hspot : spot = none := by simpa [Addr.add] using World.cell?_spot hc00
      subst hspot
      refine ⟨b, off, rfl, by have := World.block_lt_of_cell? W _ hc00; simpa [Addr.add] using this, fun i hi j v hv => ?_⟩
      obtain ⟨_, hl, hc⟩ := World.cells?_some (hC i (by omega)).1
      rw [hs] at hl hc
      have hj : j < (C i).length := by
        rcases Nat.lt_or_ge j (C i).length with h' | h'
        · exact h'
        · rw [List.getElem?_eq_none h'] at hv; cases hv
      have := hc j (by omega)
      rw [add_add, Addr.add_lit, hv] at this
      exact this
    · obtain ⟨h1, h2⟩ := hC i (by omega)
      obtain ⟨_, hl, _⟩ := World.cells?_some h1
      refine ⟨by rw [hl, hs], h2, fun k hk => hw k ?_⟩
      simp only [DataW.weights, ht, List.mem_cons, List.mem_append]
      exact .inr (.inl (weights_all_mem (List.mem_map.2 ⟨i, List.mem_range.2 hi, rfl⟩) hk))

/-- .. as one row of cells. -/
theorem rd_of_cells {W : World} {A : Option Addr} {len cap s by_ : Nat} {C : Nat → List Value} (hle : len ≤ cap) (hcap : cap ≤ 9223372036854775807) (hlen : len ≤ 140737488351232) (hl : ∀ i, i < len → (C i).length = s)
    (h : len ≠ 0 → ∃ b off, A = some ⟨b, off, none⟩ ∧ b < W.heap.size ∧ ∀ i, i < len → ∀ j v, (C i)[j]? = some v → W.cell? ⟨b, off + (i * s + j), none⟩ = some v) : Rd W s A cap len ((List.range len).flatMap C) := by
  have hg : ∀ n, n ≤ len → ((List.range n).flatMap C).length = n * s := by
    intro n
    induction n with
    | zero => intro _; simp
    | succ n ih =>
      intro hn
      rw [List.range_succ, List.flatMap_append, List.length_append, ih (by omega)]
      simp [hl n (by omega), Nat.succ_mul]
  have hget : ∀ n, n ≤ len → ∀ k v, ((List.range n).flatMap C)[k]? = some v → ∃ i j, i < n ∧ k = i * s + j ∧ (C i)[j]? = some v := by
    intro n
    induction n with
    | zero => intro _ k v hv; simp at hv
    | succ n ih =>
      intro hn k v hv
      rw [List.range_succ, List.flatMap_append] at hv
      rcases Nat.lt_or_ge k (n * s) with hk | hk
      · rw [List.getElem?_append_left (by rw [hg n (by omega)]; exact hk)] at hv
        obtain ⟨i, j, hi, e, hc⟩ := ih (by omega) k v hv
        exact ⟨i, j, by omega, e, hc⟩
      · rw [List.getElem?_append_right (by rw [hg n (by omega)]; exact hk), hg n (by omega)] at hv
        simp only [List.flatMap_cons, List.flatMap_nil, List.append_nil] at hv
        exact ⟨n, k - n * s, by omega, by omega, hv⟩
  refine ⟨⟨hg len (Nat.le_refl _), hle, hcap, hlen⟩, fun hn => ?_⟩
  obtain ⟨b, off, e, hb, hc⟩ := h hn
  refine ⟨b, off, e, hb, fun k v hv => ?_⟩
  obtain ⟨i, j, hi, rfl, hv'⟩ := hget len (Nat.le_refl _) k v hv
  exact hc i hi j v hv'

theorem u8_of_trod {H : Type} {enc : TypeId × Value → H} {W : World} {fuel : Nat} {cs : List Value} {x : DataW H × List MemPlace} (h : DataW.trod enc Try.prog W 0 (fun _ => true) true fuel 5 cs = some x) : ∃ u : UInt8, cs = [.int .u8 (u.toNat : Int)] := by
  obtain ⟨n, rfl, _, hwf⟩ := DataW.trod_int Try.underlying5 h
  have := bounds_u8 hwf
  refine ⟨UInt8.ofNat n.toNat, ?_⟩
  congr 2
  simp only [UInt8.toNat_ofNat']
  omega
theorem bytes_u8 : Try.prog.bytesOf 5 = 1 := by kernel_rfl
theorem cells_u8 : Try.prog.cellsOf 5 = 1 := by kernel_rfl
theorem flat_bytes (U : Nat → UInt8) (C : Nat → List Value) (n : Nat) (h : ∀ i, i < n → C i = [.int .u8 ((U i).toNat : Int)]) : (List.range n).flatMap C = cellsB ((List.range n).map U) := by
  rw [List.flatMap_def, List.map_congr_left (g := fun i => [Value.int .u8 ((U i).toNat : Int)]) (fun i hi => h i (List.mem_range.1 hi))]
  simp [cellsB]
  induction n with
  | zero => rfl
  | succ n ih => rw [List.range_succ]; simp [ih (fun i hi => h i (by omega))]

/-- Bytes. -/
theorem bytes_of_trod {H : Type} {enc : TypeId × Value → H} {W : World} {fuel : Nat} {t : TypeId} {cs : List Value} {x : DataW H × List MemPlace} (ht : Try.prog.underlying t = some (.slice 5)) (h : DataW.trod enc Try.prog W 0 (fun _ => true) true fuel t cs = some x)
    (hw : ∀ n ∈ x.1.weights Try.prog t, n ≤ reachBytes) : ∃ A c l, cs = [.slice A (List.length l) c] ∧ BR W A c l := by
  obtain ⟨A, len, cap, m, C, D, rfl, hle, hcap, hby, hcell, hel⟩ := slice_of_trod ht cells_u8 (by omega) bytes_u8 h hw
  obtain ⟨U, hU⟩ := choose_lt (α := UInt8) (p := fun i u => C i = [.int .u8 (u.toNat : Int)]) (fun i hi => u8_of_trod (hel i hi).2.1)
  have hrd := rd_of_cells (by_ := 1) hle hcap (by omega) (fun i hi => (hel i hi).1) hcell
  rw [flat_bytes U C len hU] at hrd
  refine ⟨A, cap, (List.range len).map U, by simp, ?_⟩
  unfold BR
  simpa using hrd

/-- A key. -/
def keyV (k : List UInt8) : Value := .agg (cellsB k).toArray
theorem key_of_trod {H : Type} {enc : TypeId × Value → H} {W : World} {fuel : Nat} {cs : List Value} {x : DataW H × List MemPlace} (h : DataW.trod enc Try.prog W 0 (fun _ => true) true fuel 23 cs = some x) : ∃ k : List UInt8, k.length = 16 ∧ cs = cellsB k := by
  obtain ⟨xs, m, _, _, hl, hn, hel⟩ := DataW.trod_array Try.underlying23 h
  rw [show Try.prog.cellsOf 23 = 16 from by kernel_rfl] at hl
  rw [cells_u8] at hel
  obtain ⟨U, hU⟩ := choose_lt (α := UInt8) (n := 16) (p := fun i u => (cs.drop (i * 1)).take 1 = [.int .u8 (u.toNat : Int)]) (fun i hi => by
    have h1 := hel i hi
    rw [List.getElem?_eq_getElem (by omega)] at h1
    exact u8_of_trod h1)
  refine ⟨(List.range 16).map U, by simp, ?_⟩
  refine List.ext_getElem (by simp [cellsB, hl]) fun i hi hi2 => ?_
  have h1 := hU i (by omega)
  rw [Nat.mul_one, List.drop_eq_getElem_cons hi] at h1
  simp only [List.take_succ_cons, List.take_zero, List.cons.injEq, and_true] at h1
  rw [h1]
  simp [cellsB]
/-- Integers. -/
def cellsI (l : List Int) : List Value := l.map fun x => .int .i64 x
def IR (w : World) (A : Option Addr) (c : Nat) (l : List Int) : Prop := Rd w 1 A c l.length (cellsI l) ∧ ∀ x ∈ l, -9223372036854775808 ≤ x ∧ x ≤ 9223372036854775807
theorem cells_int : Try.prog.cellsOf 3 = 1 := by kernel_rfl
theorem bytes_int : Try.prog.bytesOf 3 = 8 := by kernel_rfl
theorem int_of_trod {H : Type} {enc : TypeId × Value → H} {W : World} {fuel : Nat} {cs : List Value} {x : DataW H × List MemPlace} (h : DataW.trod enc Try.prog W 0 (fun _ => true) true fuel 3 cs = some x) : ∃ u : Int, cs = [.int .i64 u] ∧ -9223372036854775808 ≤ u ∧ u ≤ 9223372036854775807 := by
  obtain ⟨n, rfl, _, hwf⟩ := DataW.trod_int Try.underlying3 h
  have := bounds_i64 hwf
  exact ⟨n, rfl, by omega⟩
theorem flat_ints (U : Nat → Int) (C : Nat → List Value) (n : Nat) (h : ∀ i, i < n → C i = [.int .i64 (U i)]) : (List.range n).flatMap C = cellsI ((List.range n).map U) := by
  rw [List.flatMap_def, List.map_congr_left (g := fun i => [Value.int .i64 (U i)]) (fun i hi => h i (List.mem_range.1 hi))]
  simp [cellsI]
  induction n with
  | zero => rfl
  | succ n ih => rw [List.range_succ]; simp [ih (fun i hi => h i (by omega))]
theorem ints_of_trod {H : Type} {enc : TypeId × Value → H} {W : World} {fuel : Nat} {t : TypeId} {cs : List Value} {x : DataW H × List MemPlace} (ht : Try.prog.underlying t = some (.slice 3)) (h : DataW.trod enc Try.prog W 0 (fun _ => true) true fuel t cs = some x)
    (hw : ∀ n ∈ x.1.weights Try.prog t, n ≤ reachBytes) : ∃ A c l, cs = [.slice A (List.length l) c] ∧ IR W A c l ∧ c * 8 ≤ 140737488351232 := by
  obtain ⟨A, len, cap, m, C, D, rfl, hle, hcap, hby, hcell, hel⟩ := slice_of_trod ht cells_int (by omega) bytes_int h hw
  obtain ⟨U, hU⟩ := choose_lt (α := Int) (p := fun i u => C i = [.int .i64 u] ∧ -9223372036854775808 ≤ u ∧ u ≤ 9223372036854775807) (fun i hi => int_of_trod (hel i hi).2.1)
  have hrd := rd_of_cells (by_ := 8) hle hcap (by omega) (fun i hi => (hel i hi).1) hcell
  rw [flat_ints U C len (fun i hi => (hU i hi).1)] at hrd
  refine ⟨A, cap, (List.range len).map U, by simp, ⟨by simpa using hrd, fun x hx => ?_⟩, hby⟩
  obtain ⟨i, hi, rfl⟩ := List.mem_map.1 hx
  exact (hU i (List.mem_range.1 hi)).2



set_option maxRecDepth 100000 in
theorem slice_val {P : Program} {W : World} {b0 : Nat} {t e : TypeId} {v : Value} {A : Option Addr} {n c : Nat} (ht : P.underlying t = some (.slice e)) (hval : Value.okWide P W .any b0 t v) (h : v.cells.toList = [.slice A n c]) : v = .slice A n c := by
  obtain ⟨a, l, c', hv⟩ := okWide_slice ht hval
  subst hv
  simpa [Value.cells] using h
set_option maxRecDepth 100000 in
theorem open_bytes {H : Type} {enc : TypeId × Value → H} {W : World} {b0 : Nat} {v : Value} {d : DataW H} {ps : List MemPlace} (hval : Value.okWide Try.prog W .any b0 24 v) (hd : DataW.Trod enc Try.prog W 0 (fun _ => true) true 24 v d ps)
    (hw : ∀ n ∈ d.weights Try.prog 24, n ≤ reachBytes) : ∃ A c z, v = .slice A (List.length z) c ∧ BR W A c z := by
  obtain ⟨fuel, hf⟩ := hd
  obtain ⟨A, c, z, e, h⟩ := bytes_of_trod Try.underlying24 hf hw
  exact ⟨A, c, z, slice_val Try.underlying24 hval e, h⟩
end Go.Proofs.Ytinpiodfpnbllaa
