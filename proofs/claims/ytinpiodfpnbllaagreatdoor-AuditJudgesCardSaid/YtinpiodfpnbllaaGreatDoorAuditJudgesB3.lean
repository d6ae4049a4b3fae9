/-
  Lemmas and contracts, joined: part 3.
-/
import Derived.SizedLaws
import Derived.Deep.Slices
import Derived.Lib.SmallJoins
import Derived.Deep.Strs
import Derived.Lib.AppendZeros
import Derived.Deep.QuietTactic
import Derived.BigQuiet
import Derived.Lib.AppendZerosOnto
import Derived.Laws.BitsAllLaws
import Derived.Laws.BitsLemmas
import Derived.StillTailTactics
import Derived.RangeFuncNested
import Derived.RangeFuncBound
import Derived.RangeFuncCalls
import Derived.RangeFuncLeaves
import Derived.RangeFuncBox
import Derived.Shelf.Abstract
import Derived.Shelf.RegionOpen
import Derived.OwnWalkIn
import Derived.TacticsInMore
import Derived.LoopNIn
import Derived.LoopIn
import Derived.Deep.RegionHeld3
import Derived.Test.YtinpiodfpnbllaaGreatDoorAuditJudgesB2
set_option linter.unusedSimpArgs false
set_option linter.unusedVariables false
set_option linter.unnecessarySimpa false
/- What the frames of the laws share: bytes, keys, integers, and rows of these among the arguments, opened. -/
namespace Go.Proofs.YtinpiodfpnbllaaGreatDoor
open Go.ChangeShapes Go.WideShapes Go.ChangeAt Go.RowKit Go.Deep
set_option linter.unusedVariables false

theorem weights_of_ {H : Type} {P : Program} {ts : List TypeId} {ds : List (DataW H)} (h : (DataW.weightsEach P ts ds).all (· ≤ reachBytes) = true) {j : Nat} {t : TypeId} {d : DataW H} (ht : ts[j]? = some t) (hd : ds[j]? = some d) :
    ∀ n ∈ d.weights P t, n ≤ reachBytes := fun n hn => by
  simpa using List.all_eq_true.1 h _ (DataW.weights_mem_each ht hd n hn)
theorem weights_all_mem {H : Type} {P : Program} {e : TypeId} {l : List (DataW H)} {d : DataW H} (hd : d ∈ l) {n : Nat} (hn : n ∈ d.weights P e) : n ∈ DataW.weightsAll P e l := by
  induction l with
  | nil => cases hd
  | cons x l ih =>
    rcases List.mem_cons.1 hd with rfl | h
    · exact List.mem_append.2 (.inl hn)
    · exact List.mem_append.2 (.inr (ih h))

/-- A slice that came in, element by element. -/
theorem slice_of_trod {H : Type} {enc : TypeId × Value → H} {P : Program} {W : World} {fuel : Nat} {t e : TypeId} {cs : List Value} {x : DataW H × List MemPlace} {s by_ : Nat} (ht : P.underlying t = some (.slice e)) (hs : P.cellsOf e = s) (hs0 : 0 < s) (hby : P.bytesOf e = by_) (h : DataW.trod enc P W 0 (fun _ => true) true fuel t cs = some x)
    (hw : ∀ n ∈ x.1.weights P t, n ≤ reachBytes) :
    ∃ (A : Option Addr) (len cap m : Nat) (C : Nat → List Value) (D : Nat → DataW H × List MemPlace), cs = [.slice A len cap] ∧ len ≤ cap ∧ cap ≤ 9223372036854775807 ∧ cap * by_ ≤ 140737488351232 ∧
      (len ≠ 0 → ∃ b off, A = some ⟨b, off, none⟩ ∧ b < W.heap.size ∧ ∀ i, i < len → ∀ j v, (C i)[j]? = some v → W.cell? ⟨b, off + (i * s + j), none⟩ = some v) ∧
      ∀ i, i < len → (C i).length = s ∧ DataW.trod enc P W 0 (fun _ => true) true m e (C i) = some (D i) ∧ ∀ n ∈ (D i).1.weights P e, n ≤ reachBytes := by
  rcases open_slice ht h with ⟨rfl, rfl⟩ | ⟨a, len, cap, m, n, D, Pl, rfl, _, hle, hm, hmm, rfl, hx⟩
  · exact ⟨none, 0, 0, 0, fun _ => [], fun _ => (.nil, []), rfl, Nat.le_refl _, by omega, by omega, fun h => absurd rfl h, fun i hi => absurd hi (by omega)⟩
  · simp only [if_true] at hmm
    subst hmm
    have hcap : m * by_ ≤ 140737488351232 := by
      have := hw ((len + (m - len)) * by_) (by simp [DataW.weights, ht, hby])
      simp only [reachBytes] at this
      rw [show len + (m - len) = m from by omega] at this
      exact this
    obtain ⟨C, hC⟩ := choose_lt (α := List Value) (p := fun i cs' => W.cells? 0 (a.add (i * P.cellsOf e)) (P.cellsOf e) = some cs' ∧ DataW.trod enc P W 0 (fun _ => true) true n e cs' = some (D i, Pl i)) (fun i hi => hx i hi)
    refine ⟨some a, len, m, n, C, fun i => (D i, Pl i), rfl, hle, by simpa [maxLen] using hm, hcap, fun h0 => ?_, fun i hi => ?_⟩
    · have h0' := hC 0 (by omega)
      obtain ⟨_, hl0, hc0⟩ := World.cells?_some h0'.1
      rw [hs] at hl0 hc0
      have hc00 := hc0 0 hs0
      rw [Nat.zero_mul, add_add, List.getElem?_eq_getElem (show 0 < (C 0).length by omega)] at hc00
      obtain ⟨b, off, spot⟩ := a
      have hspot : spot = none := by simpa [Addr.add] using World.cell?_spot hc00
      subst hspot
      refine ⟨b, off, rfl, by have := World.block_lt_of_cell? W _ hc00; simpa [Addr.add] using this, fun i hi j v hv => ?_⟩
      obtain ⟨_, hl, hc⟩ := World.cells?_some (hC i (by omega)).1
      rw [hs] at hl hc
      have hj : j < (C i).length := by
        rcases Nat.lt_or_ge j (C i).length with h' | h'
        · exact h'
        · rw [List.getElem?_eq_none h'] at hv; cases hv
      have := hc j (by omega)
      rw [add_add, Addr.add_lit, hv] at this
      exact this
    · obtain ⟨h1, h2⟩ := hC i (by omega)
      obtain ⟨_, hl, _⟩ := World.cells?_some h1
      refine ⟨by rw [hl, hs], h2, fun k hk => hw k ?_⟩
      simp only [DataW.weights, ht, List.mem_cons, List.mem_append]
      exact .inr (.inl (weights_all_mem (List.mem_map.2 ⟨i, List.mem_range.2 hi, rfl⟩) hk))

/-- .. as one row of cells. -/
theorem rd_of_cells {W : World} {A : Option Addr} {len cap s by_ : Nat} {C : Nat → List Value} (hle : len ≤ cap) (hcap : cap ≤ 9223372036854775807) (hlen : len ≤ 140737488351232) (hl : ∀ i, i < len → (C i).length = s)
    (h : len ≠ 0 → ∃ b off, A = some ⟨b, off, none⟩ ∧ b < W.heap.size ∧ ∀ i, i < len → ∀ j v, (C i)[j]? = some v → W.cell? ⟨b, off + (i * s + j), none⟩ = some v) : Rd W s A cap len ((List.range len).flatMap C) := by
  have hg : ∀ n, n ≤ len → ((List.range n).flatMap C).length = n * s := by
    intro n
    induction n with
    | zero => intro _; simp
    | succ n ih =>
      intro hn
      rw [List.range_succ, List.flatMap_append, List.length_append, ih (by omega)]
      simp [hl n (by omega), Nat.succ_mul]
  have hget : ∀ n, n ≤ len → ∀ k v, ((List.range n).flatMap C)[k]? = some v → ∃ i j, i < n ∧ k = i * s + j ∧ (C i)[j]? = some v := by
    intro n
    induction n with
    | zero => intro _ k v hv; simp at hv
    | succ n ih =>
      intro hn k v hv
      rw [List.range_succ, List.flatMap_append] at hv
      rcases Nat.lt_or_ge k (n * s) with hk | hk
      · rw [List.getElem?_append_left (by rw [hg n (by omega)]; exact hk)] at hv
        obtain ⟨i, j, hi, e, hc⟩ := ih (by omega) k v hv
        exact ⟨i, j, by omega, e, hc⟩
      · rw [List.getElem?_append_right (by rw [hg n (by omega)]; exact hk), hg n (by omega)] at hv
        simp only [List.flatMap_cons, List.flatMap_nil, List.append_nil] at hv
        exact ⟨n, k - n * s, by omega, by omega, hv⟩
  refine ⟨⟨hg len (Nat.le_refl _), hle, hcap, hlen⟩, fun hn => ?_⟩
  obtain ⟨b, off, e, hb, hc⟩ := h hn
  refine ⟨b, off, e, hb, fun k v hv => ?_⟩
  obtain ⟨i, j, hi, rfl, hv'⟩ := hget len (Nat.le_refl _) k v hv
  exact hc i hi j v hv'

theorem u8_of_trod {H : Type} {enc : TypeId × Value → H} {W : World} {fuel : Nat} {cs : List Value} {x : DataW H × List MemPlace} (h : DataW.trod enc Tryz.prog W 0 (fun _ => true) true fuel 5 cs = some x) : ∃ u : UInt8, cs = [.int .u8 (u.toNat : Int)] := by
  obtain ⟨n, rfl, _, hwf⟩ := DataW.trod_int Tryz.underlying5 h
  have := bounds_u8 hwf
  refine ⟨UInt8.ofNat n.toNat, ?_⟩
  congr 2
  simp only [UInt8.toNat_ofNat']
  omega
theorem bytes_u8 : Tryz.prog.bytesOf 5 = 1 := by kernel_rfl
theorem cells_u8 : Tryz.prog.cellsOf 5 = 1 := by kernel_rfl
theorem flat_bytes (U : Nat → UInt8) (C : Nat → List Value) (n : Nat) (h : ∀ i, i < n → C i = [.int .u8 ((U i).toNat : Int)]) : (List.range n).flatMap C = cellsB ((List.range n).map U) := by
  rw [List.flatMap_def, List.map_congr_left (g := fun i => [Value.int .u8 ((U i).toNat : Int)]) (fun i hi => h i (List.mem_range.1 hi))]
  simp [cellsB]
  induction n with
  | zero => rfl
  | succ n ih => rw [List.range_succ]; simp [ih (fun i hi => h i (by omega))]

/-- Bytes. -/
theorem bytes_of_trod {H : Type} {enc : TypeId × Value → H} {W : World} {fuel : Nat} {t : TypeId} {cs : List Value} {x : DataW H × List MemPlace} (ht : Tryz.prog.underlying t = some (.slice 5)) (h : DataW.trod enc Tryz.prog W 0 (fun _ => true) true fuel t cs = some x)
    (hw : ∀ n ∈ x.1.weights Tryz.prog t, n ≤ reachBytes) : ∃ A c l, cs = [.slice A (List.length l) c] ∧ BR W A c l := by
  obtain ⟨A, len, cap, m, C, D, rfl, hle, hcap, hby, hcell, hel⟩ := slice_of_trod ht cells_u8 (by omega) bytes_u8 h hw
  obtain ⟨U, hU⟩ := choose_lt (α := UInt8) (p := fun i u => C i = [.int .u8 (u.toNat : Int)]) (fun i hi => u8_of_trod (hel i hi).2.1)
  have hrd := rd_of_cells (by_ := 1) hle hcap (by omega) (fun i hi => (hel i hi).1) hcell
  rw [flat_bytes U C len hU] at hrd
  refine ⟨A, cap, (List.range len).map U, by simp, ?_⟩
  unfold BR
  simpa using hrd

/-- A key. -/
def keyV (k : List UInt8) : Value := .agg (cellsB k).toArray
theorem key_of_trod {H : Type} {enc : TypeId × Value → H} {W : World} {fuel : Nat} {cs : List Value} {x : DataW H × List MemPlace} (h : DataW.trod enc Tryz.prog W 0 (fun _ => true) true fuel 24 cs = some x) : ∃ k : List UInt8, k.length = 16 ∧ cs = cellsB k := by
  obtain ⟨xs, m, _, _, hl, hn, hel⟩ := DataW.trod_array Tryz.underlying24 h
  rw [show Tryz.prog.cellsOf 24 = 16 from by kernel_rfl] at hl
  rw [cells_u8] at hel
  obtain ⟨U, hU⟩ := choose_lt (α := UInt8) (n := 16) (p := fun i u => (cs.drop (i * 1)).take 1 = [.int .u8 (u.toNat : Int)]) (fun i hi => by
    have h1 := hel i hi
    rw [List.getElem?_eq_getElem (by omega)] at h1
    exact u8_of_trod h1)
  refine ⟨(List.range 16).map U, by simp, ?_⟩
  refine List.ext_getElem (by simp [cellsB, hl]) fun i hi hi2 => ?_
  have h1 := hU i (by omega)
  rw [Nat.mul_one, List.drop_eq_getElem_cons hi] at h1
  simp only [List.take_succ_cons, List.take_zero, List.cons.injEq, and_true] at h1
  rw [h1]
  simp [cellsB]
/-- Integers. -/
def cellsI (l : List Int) : List Value := l.map fun x => .int .i64 x
def IR (w : World) (A : Option Addr) (c : Nat) (l : List Int) : Prop := Rd w 1 A c l.length (cellsI l) ∧ ∀ x ∈ l, -9223372036854775808 ≤ x ∧ x ≤ 9223372036854775807
theorem cells_int : Tryz.prog.cellsOf 3 = 1 := by kernel_rfl
theorem bytes_int : Tryz.prog.bytesOf 3 = 8 := by kernel_rfl
theorem int_of_trod {H : Type} {enc : TypeId × Value → H} {W : World} {fuel : Nat} {cs : List Value} {x : DataW H × List MemPlace} (h : DataW.trod enc Tryz.prog W 0 (fun _ => true) true fuel 3 cs = some x) : ∃ u : Int, cs = [.int .i64 u] ∧ -9223372036854775808 ≤ u ∧ u ≤ 9223372036854775807 := by
  obtain ⟨n, rfl, _, hwf⟩ := DataW.trod_int Tryz.underlying3 h
  have := bounds_i64 hwf
  exact ⟨n, rfl, by omega⟩
theorem flat_ints (U : Nat → Int) (C : Nat → List Value) (n : Nat) (h : ∀ i, i < n → C i = [.int .i64 (U i)]) : (List.range n).flatMap C = cellsI ((List.range n).map U) := by
  rw [List.flatMap_def, List.map_congr_left (g := fun i => [Value.int .i64 (U i)]) (fun i hi => h i (List.mem_range.1 hi))]
  simp [cellsI]
  induction n with
  | zero => rfl
  | succ n ih => rw [List.range_succ]; simp [ih (fun i hi => h i (by omega))]
theorem ints_of_trod {H : Type} {enc : TypeId × Value → H} {W : World} {fuel : Nat} {t : TypeId} {cs : List Value} {x : DataW H × List MemPlace} (ht : Tryz.prog.underlying t = some (.slice 3)) (h : DataW.trod enc Tryz.prog W 0 (fun _ => true) true fuel t cs = some x)
    (hw : ∀ n ∈ x.1.weights Tryz.prog t, n ≤ reachBytes) : ∃ A c l, cs = [.slice A (List.length l) c] ∧ IR W A c l ∧ c * 8 ≤ 140737488351232 := by
  obtain ⟨A, len, cap, m, C, D, rfl, hle, hcap, hby, hcell, hel⟩ := slice_of_trod ht cells_int (by omega) bytes_int h hw
  obtain ⟨U, hU⟩ := choose_lt (α := Int) (p := fun i u => C i = [.int .i64 u] ∧ -9223372036854775808 ≤ u ∧ u ≤ 9223372036854775807) (fun i hi => int_of_trod (hel i hi).2.1)
  have hrd := rd_of_cells (by_ := 8) hle hcap (by omega) (fun i hi => (hel i hi).1) hcell
  rw [flat_ints U C len (fun i hi => (hU i hi).1)] at hrd
  refine ⟨A, cap, (List.range len).map U, by simp, ⟨by simpa using hrd, fun x hx => ?_⟩, hby⟩
  obtain ⟨i, hi, rfl⟩ := List.mem_map.1 hx
  exact (hU i (List.mem_range.1 hi)).2



set_option maxRecDepth 100000 in
theorem slice_val {P : Program} {W : World} {b0 : Nat} {t e : TypeId} {v : Value} {A : Option Addr} {n c : Nat} (ht : P.underlying t = some (.slice e)) (hval : Value.okWide P W .any b0 t v) (h : v.cells.toList = [.slice A n c]) : v = .slice A n c := by
  obtain ⟨a, l, c', hv⟩ := okWide_slice ht hval
  subst hv
  simpa [Value.cells] using h
set_option maxRecDepth 100000 in
theorem open_bytes {H : Type} {enc : TypeId × Value → H} {W : World} {b0 : Nat} {v : Value} {d : DataW H} {ps : List MemPlace} (hval : Value.okWide Tryz.prog W .any b0 22 v) (hd : DataW.Trod enc Tryz.prog W 0 (fun _ => true) true 22 v d ps)
    (hw : ∀ n ∈ d.weights Tryz.prog 22, n ≤ reachBytes) : ∃ A c z, v = .slice A (List.length z) c ∧ BR W A c z := by
  obtain ⟨fuel, hf⟩ := hd
  obtain ⟨A, c, z, e, h⟩ := bytes_of_trod Tryz.underlying22 hf hw
  exact ⟨A, c, z, slice_val Tryz.underlying22 hval e, h⟩
end Go.Proofs.YtinpiodfpnbllaaGreatDoor

/- What the frames of the laws share: a recording, a key among the arguments, opened. -/
namespace Go.Proofs.YtinpiodfpnbllaaGreatDoor
open Go.ChangeShapes Go.WideShapes Go.ChangeAt Go.RowKit Go.Deep
set_option linter.unusedVariables false

theorem cells_key : Tryz.prog.cellsOf 24 = 16 := by kernel_rfl
theorem cells_recording : Tryz.prog.cellsOf 86 = 33 := by kernel_rfl
theorem cells_bytes : Tryz.prog.cellsOf 22 = 1 := by kernel_rfl

theorem okWide_array {P : Program} {w : World} {r : Reach} {base : Nat} {t e : TypeId} {v : Value} {n : Nat} (ht : P.underlying t = some (.array n e)) (h : Value.okWide P w r base t v) : ∃ cs, v = .agg cs ∧ cs.size = P.cellsOf t := by
  simp only [Value.okWide, ht] at h
  obtain ⟨cs, h1, h2, _⟩ := h
  exact ⟨cs, h1, h2⟩
set_option maxRecDepth 100000 in
theorem open_key {H : Type} {enc : TypeId × Value → H} {W : World} {b0 : Nat} {v : Value} {d : DataW H} {ps : List MemPlace} (hval : Value.okWide Tryz.prog W .any b0 24 v) (hd : DataW.Trod enc Tryz.prog W 0 (fun _ => true) true 24 v d ps) :
    ∃ k : List UInt8, v = .agg (cellsB k).toArray ∧ k.length = 16 := by
  obtain ⟨cs, rfl, hsz⟩ := okWide_array Tryz.underlying24 hval
  obtain ⟨fuel, hf⟩ := hd
  obtain ⟨k, hk, e⟩ := key_of_trod hf
  refine ⟨k, ?_, hk⟩
  rw [← e]
  simp [Value.cells]

/-- A recording, among cells. -/
theorem recording_of_trod {H : Type} {enc : TypeId × Value → H} {W : World} {fuel : Nat} {cs : List Value} {x : DataW H × List MemPlace} (h : DataW.trod enc Tryz.prog W 0 (fun _ => true) true fuel 86 cs = some x)
    (hw : ∀ n ∈ x.1.weights Tryz.prog 86, n ≤ reachBytes) : ∃ b c A m l, cs = recC b c A (List.length l) m ∧ b.length = 16 ∧ c.length = 16 ∧ BR W A m l := by
  obtain ⟨y0, y1, y2, n, rfl, hl, h0, h1, h2⟩ := trod_struct3 Tryz.underlying86 h
  have hw' : ∀ n ∈ DataW.weightsEach Tryz.prog [24, 24, 22] [y0.1, y1.1, y2.1], n ≤ reachBytes := by simpa [DataW.weights, Tryz.underlying86] using hw
  dsimp only at h0 h1 h2
  rw [cells_key] at h0 h1
  rw [cells_bytes] at h2
  rw [cells_recording] at hl
  obtain ⟨b, hb, e0⟩ := key_of_trod h0
  obtain ⟨c, hc, e1⟩ := key_of_trod h1
  obtain ⟨A, m, l, e2, hB⟩ := bytes_of_trod Tryz.underlying22 h2 (fun m hm => hw' m (DataW.weights_mem_each (j := 2) rfl rfl m hm))
  refine ⟨b, c, A, m, l, ?_, hb, hc, hB⟩
  rw [recC, ← e0, ← e1, ← e2, List.drop_zero]
  rw [show List.take 16 (List.drop 16 cs) ++ List.take 1 (List.drop 32 cs) = List.drop 16 cs from by
    rw [List.take_of_length_le (show (List.drop 32 cs).length ≤ 1 by simp; omega), show List.drop 32 cs = List.drop 16 (List.drop 16 cs) from by rw [List.drop_drop], List.take_append_drop], List.take_append_drop]
set_option maxRecDepth 100000 in
theorem open_recording {H : Type} {enc : TypeId × Value → H} {W : World} {b0 : Nat} {v : Value} {d : DataW H} {ps : List MemPlace} (hval : Value.okWide Tryz.prog W .any b0 86 v) (hd : DataW.Trod enc Tryz.prog W 0 (fun _ => true) true 86 v d ps)
    (hw : ∀ n ∈ d.weights Tryz.prog 86, n ≤ reachBytes) : ∃ b c A m l, v = .agg (recC b c A (List.length l) m).toArray ∧ b.length = 16 ∧ c.length = 16 ∧ BR W A m l := by
  obtain ⟨cs, rfl, hsz⟩ := okWide_struct Tryz.underlying86 hval
  obtain ⟨fuel, hf⟩ := hd
  obtain ⟨b, c, A, m, l, e, h1, h2, h3⟩ := recording_of_trod hf hw
  refine ⟨b, c, A, m, l, ?_, h1, h2, h3⟩
  rw [← e]
  simp [Value.cells]
end Go.Proofs.YtinpiodfpnbllaaGreatDoor

/- Lists of keys in memory. -/
namespace Go.Proofs.YtinpiodfpnbllaaGreatDoor
open Go.RowKit
set_option linter.unusedVariables false

def cellsK (ks : List (List UInt8)) : List Value := ks.flatMap cellsB
def Keys16 (ks : List (List UInt8)) : Prop := ∀ k ∈ ks, k.length = 16
theorem Keys16.take {ks : List (List UInt8)} (h : Keys16 ks) (n : Nat) : Keys16 (ks.take n) := fun k hk => h k (List.mem_of_mem_take hk)
theorem Keys16.drop {ks : List (List UInt8)} (h : Keys16 ks) (n : Nat) : Keys16 (ks.drop n) := fun k hk => h k (List.mem_of_mem_drop hk)
theorem cellsK_length : ∀ {ks : List (List UInt8)}, Keys16 ks → (cellsK ks).length = ks.length * 16
  | [], _ => rfl
  | k :: ks, h => by
    have h1 := h k List.mem_cons_self
    have h2 := cellsK_length (ks := ks) fun x hx => h x (List.mem_cons_of_mem _ hx)
    unfold cellsK at h2 ⊢
    rw [List.flatMap_cons, List.length_append, h2, cellsB_length, h1, List.length_cons]
    omega
theorem cellsK_append (a b : List (List UInt8)) : cellsK (a ++ b) = cellsK a ++ cellsK b := by simp [cellsK]
theorem cellsK_one (a : List UInt8) : cellsK [a] = cellsB a := by simp [cellsK]
theorem cellsK_take {ks : List (List UInt8)} (h : Keys16 ks) (n : Nat) (hn : n ≤ ks.length) : (cellsK ks).take (n * 16) = cellsK (ks.take n) := by
  have h1 : (cellsK (ks.take n)).length = n * 16 := by rw [cellsK_length (h.take n), List.length_take, Nat.min_eq_left hn]
  conv => lhs; rw [← List.take_append_drop n ks, cellsK_append]
  rw [List.take_append_of_le_length (by omega), List.take_of_length_le (by omega)]
theorem cellsK_drop {ks : List (List UInt8)} (h : Keys16 ks) (n : Nat) (hn : n ≤ ks.length) : (cellsK ks).drop (n * 16) = cellsK (ks.drop n) := by
  have h1 : (cellsK (ks.take n)).length = n * 16 := by rw [cellsK_length (h.take n), List.length_take, Nat.min_eq_left hn]
  conv => lhs; rw [← List.take_append_drop n ks, cellsK_append]
  rw [List.drop_append_of_le_length (by omega), List.drop_of_length_le (by omega), List.nil_append]
theorem cells_oneK (ks : List (List UInt8)) : ∀ v ∈ cellsK ks, v.oneCell' = true := fun v hv => by
  obtain ⟨k, _, hv⟩ := List.mem_flatMap.1 hv
  exact cells_one k v hv
/-- A slice that reads as keys. -/
def KR (w : World) (A : Option Addr) (c : Nat) (ks : List (List UInt8)) : Prop := Rd w 16 A c ks.length (cellsK ks) ∧ Keys16 ks
section
variable {w w' : World} {c : Nat} {A : Option Addr} {ks : List (List UInt8)}
theorem KR.below (h : KR w A c ks) (hb : Below w.heap.size w w') : KR w' A c ks := ⟨Rd.below h.1 hb, h.2⟩
theorem KR.len (h : KR w A c ks) : ks.length ≤ 140737488351232 := Rd.len h.1
theorem KR.at_ (h : KR w A c ks) {i : Nat} (hi : i < ks.length) : ∃ b off, A = some ⟨b, off, none⟩ ∧ b < w.heap.size ∧ w.rangeAt b (off + i * 16) (cellsB ks[i]) := by
  obtain ⟨b, off, e, hb, hc⟩ := h.1.2 (by omega)
  refine ⟨b, off, e, hb, fun j v hv => ?_⟩
  rw [Nat.add_assoc]
  refine hc (i * 16 + j) v ?_
  have h1 := cellsK_drop h.2 i (by omega)
  have h2 : (cellsK (ks.drop i))[j]? = some v := by
    rw [List.drop_eq_getElem_cons hi]
    unfold cellsK
    rw [List.flatMap_cons, List.getElem?_append_left ?_, hv]
    rcases Nat.lt_or_ge j (cellsB ks[i]).length with h' | h'
    · exact h'
    · rw [List.getElem?_eq_none h'] at hv; cases hv
  rw [← h1, List.getElem?_drop] at h2
  exact h2
/-- The beginning of a list. -/
theorem KR.take (h : KR w A c ks) (n : Nat) (hn : n ≤ ks.length) : KR w A c (ks.take n) := by
  have hle := Rd.le h.1
  have hl := Rd.len h.1
  have hcp := Rd.cap h.1
  refine ⟨⟨⟨cellsK_length (h.2.take n), by rw [List.length_take]; omega, hcp, by rw [List.length_take]; omega⟩, fun hne => ?_⟩, h.2.take n⟩
  rw [List.length_take] at hne
  obtain ⟨b, off, e, hb, hc⟩ := h.1.2 (by omega)
  refine ⟨b, off, e, hb, fun j v hv => hc j v ?_⟩
  rw [← cellsK_take h.2 n hn, List.getElem?_take] at hv
  split at hv
  · exact hv
  · cases hv
/-- Where a cut 'l[n:]' of keys leads. -/
def dropK (A : Option Addr) (n c : Nat) : Option Addr := if c = n then A else A.map fun x => x.add (n * 16)
theorem KR.drop (h : KR w A c ks) (n : Nat) (hn : n ≤ ks.length) : KR w (dropK A n c) (c - n) (ks.drop n) := by
  have hle := Rd.le h.1
  have hl := Rd.len h.1
  have hcp := Rd.cap h.1
  refine ⟨⟨⟨cellsK_length (h.2.drop n), by rw [List.length_drop]; omega, by omega, by rw [List.length_drop]; omega⟩, fun hne => ?_⟩, h.2.drop n⟩
  rw [List.length_drop] at hne
  obtain ⟨b, off, e, hb, hc⟩ := h.1.2 (by omega)
  refine ⟨b, off + n * 16, by rw [dropK, if_neg (by omega), e]; simp [Addr.add], hb, fun j v hv => ?_⟩
  rw [Nat.add_assoc]
  refine hc (n * 16 + j) v ?_
  rw [← cellsK_drop h.2 n hn, List.getElem?_drop] at hv
  exact hv
end
/-- The cuts themselves. -/
theorem slice_keys_from (W : World) (A : Option Addr) (m c n : Nat) (h : n ≤ m) :
    (Instr.slice 25 (.slice A m c) (some (.int .i64 (n : Int))) none none).run Tryz.prog W = .ok (.slice (dropK A n c) (m - n) (c - n)) W := by
  have e : Tryz.prog.elem 25 = 24 := by kernel_rfl
  rw [run_slice_l (P := Tryz.prog) (w := W) 25 A m c (by rw [e]; exact Tryz.underlying25) .i64 n (by omega) (by omega), e, Tryz.sizeOf24 W]
  simp [Result.andThen, sliced, dropK]
theorem slice_keys_to (W : World) (A : Option Addr) (m c n : Nat) (h : n ≤ c) :
    (Instr.slice 25 (.slice A m c) none (some (.int .i64 (n : Int))) none).run Tryz.prog W = .ok (.slice A n c) W := by
  have e : Tryz.prog.elem 25 = 24 := by kernel_rfl
  rw [run_slice_h (P := Tryz.prog) (w := W) 25 A m c (by rw [e]; exact Tryz.underlying25) .i64 n (by omega) (by omega), e, Tryz.sizeOf24 W]
  simp [Result.andThen, sliced]
  intro _
  rcases A with _ | ⟨b, o, s⟩
  · rfl
  · cases s <;> simp [Addr.add]
/-- Keys that the call owns. -/
def OK16 (B : Nat) (w : World) (A : Option Addr) (c : Nat) (ks : List (List UInt8)) : Prop := w.ownsRow B 24 16 (.slice A ks.length c) ks.length (cellsK ks)
theorem key_info3 : (Tryz.prog.info? 24).map (fun i => (i.zero, i.size, i.bytes)) = some (some (.agg (cellsB zeroK).toArray), 16, 16) := by kernel_rfl
end Go.Proofs.YtinpiodfpnbllaaGreatDoor

/- Lists of keys among a law's arguments, opened. -/
namespace Go.Proofs.YtinpiodfpnbllaaGreatDoor
open Go.ChangeShapes Go.WideShapes Go.ChangeAt Go.RowKit Go.Deep
set_option linter.unusedVariables false

theorem bytes_key : Tryz.prog.bytesOf 24 = 16 := by kernel_rfl
theorem keys_of_trod {H : Type} {enc : TypeId × Value → H} {W : World} {fuel : Nat} {t : TypeId} {cs : List Value} {x : DataW H × List MemPlace} (ht : Tryz.prog.underlying t = some (.slice 24)) (h : DataW.trod enc Tryz.prog W 0 (fun _ => true) true fuel t cs = some x)
    (hw : ∀ n ∈ x.1.weights Tryz.prog t, n ≤ reachBytes) : ∃ A c ks, cs = [.slice A (List.length ks) c] ∧ KR W A c ks ∧ c * 16 ≤ 140737488351232 := by
  obtain ⟨A, len, cap, m, C, D, rfl, hle, hcap, hby, hcell, hel⟩ := slice_of_trod ht cells_key (by omega) bytes_key h hw
  obtain ⟨U, hU⟩ := choose_lt (α := List UInt8) (p := fun i k => k.length = 16 ∧ C i = cellsB k) (fun i hi => key_of_trod (hel i hi).2.1)
  have hrd := rd_of_cells (by_ := 16) hle hcap (by omega) (fun i hi => (hel i hi).1) hcell
  have hfl : (List.range len).flatMap C = cellsK ((List.range len).map U) := by
    unfold cellsK
    rw [List.flatMap_def, List.map_congr_left (g := fun i => cellsB (U i)) (fun i hi => (hU i (List.mem_range.1 hi)).2), ← List.flatMap_def]
    generalize List.range len = l
    induction l with
    | nil => rfl
    | cons a l ih => simp [ih]
  rw [hfl] at hrd
  refine ⟨A, cap, (List.range len).map U, by simp, ⟨by simpa using hrd, fun r hr => ?_⟩, hby⟩
  obtain ⟨i, hi, rfl⟩ := List.mem_map.1 hr
  exact (hU i (List.mem_range.1 hi)).1
set_option maxRecDepth 100000 in
theorem open_keys {H : Type} {enc : TypeId × Value → H} {W : World} {b0 : Nat} {v : Value} {d : DataW H} {ps : List MemPlace} (hval : Value.okWide Tryz.prog W .any b0 25 v) (hd : DataW.Trod enc Tryz.prog W 0 (fun _ => true) true 25 v d ps)
    (hw : ∀ n ∈ d.weights Tryz.prog 25, n ≤ reachBytes) : ∃ A c z, v = .slice A (List.length z) c ∧ KR W A c z ∧ c * 16 ≤ 140737488351232 := by
  obtain ⟨fuel, hf⟩ := hd
  obtain ⟨A, c, z, e, h, hc⟩ := keys_of_trod Tryz.underlying25 hf hw
  exact ⟨A, c, z, slice_val Tryz.underlying25 hval e, h, hc⟩
end Go.Proofs.YtinpiodfpnbllaaGreatDoor

/- Proofs and growths among a law's arguments, opened. -/
namespace Go.Proofs.YtinpiodfpnbllaaGreatDoor
open Go.ChangeShapes Go.WideShapes Go.ChangeAt Go.RowKit Go.Deep
set_option linter.unusedVariables false

theorem cells_keys : Tryz.prog.cellsOf 25 = 1 := by kernel_rfl
theorem cells_i64 : Tryz.prog.cellsOf 3 = 1 := by kernel_rfl
theorem proof_of_trod {H : Type} {enc : TypeId × Value → H} {W : World} {fuel : Nat} {cs : List Value} {x : DataW H × List MemPlace} (h : DataW.trod enc Tryz.prog W 0 (fun _ => true) true fuel 27 cs = some x)
    (hw : ∀ n ∈ x.1.weights Tryz.prog 27, n ≤ reachBytes) : ∃ a b A c P, cs = [.int .i64 a, .int .i64 b, .slice A (List.length P) c] ∧ KR W A c P := by
  obtain ⟨y0, y1, y2, n, rfl, hl, h0, h1, h2⟩ := trod_struct3 Tryz.underlying27 h
  have hw' : ∀ n ∈ DataW.weightsEach Tryz.prog [3, 3, 25] [y0.1, y1.1, y2.1], n ≤ reachBytes := by simpa [DataW.weights, Tryz.underlying27] using hw
  dsimp only at h0 h1 h2
  rw [cells_i64] at h0 h1
  rw [cells_keys] at h2
  rw [show Tryz.prog.cellsOf 27 = 3 from by kernel_rfl] at hl
  obtain ⟨a, e0, _⟩ := int_of_trod h0
  obtain ⟨b, e1, _⟩ := int_of_trod h1
  obtain ⟨A, c, P, e2, hk, _⟩ := keys_of_trod Tryz.underlying25 h2 (fun m hm => hw' m (DataW.weights_mem_each (j := 2) rfl rfl m hm))
  refine ⟨a, b, A, c, P, ?_, hk⟩
  match cs, hl with
  | [u, v, z], _ =>
    simp only [List.drop_zero, List.take_succ_cons, List.take_zero, List.drop_succ_cons, List.cons.injEq, and_true] at e0 e1 e2
    rw [e0, e1, e2]
theorem growth_of_trod {H : Type} {enc : TypeId × Value → H} {W : World} {fuel : Nat} {cs : List Value} {x : DataW H × List MemPlace} (h : DataW.trod enc Tryz.prog W 0 (fun _ => true) true fuel 80 cs = some x)
    (hw : ∀ n ∈ x.1.weights Tryz.prog 80, n ≤ reachBytes) : ∃ a b A c P, cs = [.int .i64 a, .int .i64 b, .slice A (List.length P) c] ∧ KR W A c P := by
  obtain ⟨y0, y1, y2, n, rfl, hl, h0, h1, h2⟩ := trod_struct3 Tryz.underlying80 h
  have hw' : ∀ n ∈ DataW.weightsEach Tryz.prog [3, 3, 25] [y0.1, y1.1, y2.1], n ≤ reachBytes := by simpa [DataW.weights, Tryz.underlying80] using hw
  dsimp only at h0 h1 h2
  rw [cells_i64] at h0 h1
  rw [cells_keys] at h2
  rw [show Tryz.prog.cellsOf 80 = 3 from by kernel_rfl] at hl
  obtain ⟨a, e0, _⟩ := int_of_trod h0
  obtain ⟨b, e1, _⟩ := int_of_trod h1
  obtain ⟨A, c, P, e2, hk, _⟩ := keys_of_trod Tryz.underlying25 h2 (fun m hm => hw' m (DataW.weights_mem_each (j := 2) rfl rfl m hm))
  refine ⟨a, b, A, c, P, ?_, hk⟩
  match cs, hl with
  | [u, v, z], _ =>
    simp only [List.drop_zero, List.take_succ_cons, List.take_zero, List.drop_succ_cons, List.cons.injEq, and_true] at e0 e1 e2
    rw [e0, e1, e2]
set_option maxRecDepth 100000 in
theorem open_proof {H : Type} {enc : TypeId × Value → H} {W : World} {b0 : Nat} {v : Value} {d : DataW H} {ps : List MemPlace} (hval : Value.okWide Tryz.prog W .any b0 27 v) (hd : DataW.Trod enc Tryz.prog W 0 (fun _ => true) true 27 v d ps)
    (hw : ∀ n ∈ d.weights Tryz.prog 27, n ≤ reachBytes) : ∃ a b A c P, v = .agg #[.int .i64 a, .int .i64 b, .slice A (List.length P) c] ∧ KR W A c P := by
  obtain ⟨cs, rfl, hsz⟩ := okWide_struct Tryz.underlying27 hval
  obtain ⟨fuel, hf⟩ := hd
  obtain ⟨a, b, A, c, P, e, h1⟩ := proof_of_trod hf hw
  refine ⟨a, b, A, c, P, ?_, h1⟩
  have : cs = cs.toList.toArray := by simp
  rw [this]
  exact congrArg (fun l => Value.agg (List.toArray l)) e
set_option maxRecDepth 100000 in
theorem open_growth {H : Type} {enc : TypeId × Value → H} {W : World} {b0 : Nat} {v : Value} {d : DataW H} {ps : List MemPlace} (hval : Value.okWide Tryz.prog W .any b0 80 v) (hd : DataW.Trod enc Tryz.prog W 0 (fun _ => true) true 80 v d ps)
    (hw : ∀ n ∈ d.weights Tryz.prog 80, n ≤ reachBytes) : ∃ a b A c P, v = .agg #[.int .i64 a, .int .i64 b, .slice A (List.length P) c] ∧ KR W A c P := by
  obtain ⟨cs, rfl, hsz⟩ := okWide_struct Tryz.underlying80 hval
  obtain ⟨fuel, hf⟩ := hd
  obtain ⟨a, b, A, c, P, e, h1⟩ := growth_of_trod hf hw
  refine ⟨a, b, A, c, P, ?_, h1⟩
  have : cs = cs.toList.toArray := by simp
  rw [this]
  exact congrArg (fun l => Value.agg (List.toArray l)) e
end Go.Proofs.YtinpiodfpnbllaaGreatDoor

/- Revocation lists in plain words: validity, merging, pruning. -/
namespace Go.Proofs.YtinpiodfpnbllaaGreatDoor
set_option linter.unusedVariables false

abbrev Ent := Int × Int
def okE (x : Ent) : Bool := decide (0 ≤ x.1) && (decide (x.1 < 64) && (decide (0 ≤ x.2) && decide (x.2 ≤ 1099511627776)))
theorem okE_iff {x : Ent} : okE x = true ↔ 0 ≤ x.1 ∧ x.1 < 64 ∧ 0 ≤ x.2 ∧ x.2 ≤ 1099511627776 := by simp [okE]
/-- Receivers that rise, from p on. -/
def upE : Int → List Ent → Bool
  | _, [] => true
  | p, x :: l => decide (p < x.1) && upE x.1 l
def validL (l : List Ent) : Bool := l.all okE && upE (-1) l
def untilS : List Ent → Int → Int
  | [], _ => -1
  | x :: l, u => if x.1 = u then x.2 else untilS l u
def mergeS (a b : List Ent) : List Ent := (List.range 64).filterMap fun (u : Nat) => if 0 ≤ max (untilS a (u : Int)) (untilS b (u : Int)) then some ((u : Int), max (untilS a (u : Int)) (untilS b (u : Int))) else none
def pruneS (l : List Ent) (e : Int) : List Ent := l.filter fun x => decide (e ≤ x.2)
def compGo : Int → List Ent → List Ent
  | _, [] => []
  | p, x :: l => if x.1 = p then compGo p l else x :: compGo x.1 l
/-- Of each run of entries with one receiver the first. -/
def compE : List Ent → List Ent
  | [] => []
  | x :: l => x :: compGo x.1 l

theorem upE_weak {p q : Int} (h : q ≤ p) {l : List Ent} (hl : upE p l = true) : upE q l = true := by
  cases l with
  | nil => rfl
  | cons x l =>
    simp only [upE, Bool.and_eq_true, decide_eq_true_eq] at hl ⊢
    exact ⟨by omega, hl.2⟩
theorem upE_mem {p : Int} {l : List Ent} (h : upE p l = true) : ∀ x ∈ l, p < x.1 := by
  induction l generalizing p with
  | nil => simp
  | cons y l ih =>
    simp only [upE, Bool.and_eq_true, decide_eq_true_eq] at h
    intro x hx
    rcases List.mem_cons.1 hx with rfl | hx
    · exact h.1
    · have := ih h.2 x hx; omega
theorem upE_of {p : Int} {l : List Ent} (hp : l.Pairwise fun x y => x.1 < y.1) (h : ∀ x ∈ l, p < x.1) : upE p l = true := by
  induction l generalizing p with
  | nil => rfl
  | cons y l ih =>
    rw [List.pairwise_cons] at hp
    simp only [upE, Bool.and_eq_true, decide_eq_true_eq]
    exact ⟨h y List.mem_cons_self, ih hp.2 hp.1⟩
theorem upE_pair {p : Int} {l : List Ent} (h : upE p l = true) : l.Pairwise fun x y => x.1 < y.1 := by
  induction l generalizing p with
  | nil => exact .nil
  | cons y l ih =>
    simp only [upE, Bool.and_eq_true, decide_eq_true_eq] at h
    exact List.pairwise_cons.2 ⟨upE_mem h.2, ih h.2⟩
theorem validL_iff {l : List Ent} : validL l = true ↔ (∀ x ∈ l, okE x = true) ∧ l.Pairwise fun x y => x.1 < y.1 := by
  unfold validL
  rw [Bool.and_eq_true, List.all_eq_true]
  constructor
  · exact fun h => ⟨h.1, upE_pair h.2⟩
  · exact fun h => ⟨h.1, upE_of h.2 fun x hx => by have := okE_iff.1 (h.1 x hx); omega⟩
theorem validL_nil : validL [] = true := rfl
theorem validL_take {l : List Ent} (h : validL l = true) (i : Nat) : validL (l.take i) = true := by
  rw [validL_iff] at h ⊢
  exact ⟨fun x hx => h.1 x (List.mem_of_mem_take hx), h.2.sublist (List.take_sublist _ _)⟩
theorem pairwise_snoc {α : Type} {R : α → α → Prop} {l : List α} {x : α} : (l ++ [x]).Pairwise R ↔ l.Pairwise R ∧ ∀ y ∈ l, R y x := by
  rw [List.pairwise_append]
  constructor
  · exact fun h => ⟨h.1, fun y hy => h.2.2 y hy x (by simp)⟩
  · exact fun h => ⟨h.1, List.pairwise_singleton _ _, fun y hy z hz => by rw [List.mem_singleton.1 hz]; exact h.2 y hy⟩
/-- One entry more is looked at. -/
theorem validL_step {l : List Ent} {i : Nat} (hi : i < l.length) (h : validL (l.take i) = true) :
    validL (l.take (i + 1)) = (okE l[i] && (decide (i = 0) || decide ((l.getD (i - 1) (0, 0)).1 < l[i].1))) := by
  rw [Bool.eq_iff_iff, List.take_succ_eq_append_getElem hi, validL_iff, Bool.and_eq_true, Bool.or_eq_true, decide_eq_true_eq, decide_eq_true_eq, pairwise_snoc]
  have hv := validL_iff.1 h
  constructor
  · rintro ⟨h1, h2, h3⟩
    refine ⟨h1 _ (List.mem_append_right _ List.mem_cons_self), ?_⟩
    rcases Nat.eq_zero_or_pos i with h0 | h0
    · exact .inl h0
    · right
      refine h3 _ ?_
      rw [List.getD_eq_getElem?_getD, List.getElem?_eq_getElem (by omega)]
      exact List.mem_take_iff_getElem.2 ⟨i - 1, by omega, rfl⟩
  · rintro ⟨h1, h2⟩
    refine ⟨fun x hx => ?_, hv.2, fun y hy => ?_⟩
    · rcases List.mem_append.1 hx with hx | hx
      · exact hv.1 x hx
      · rw [List.mem_singleton.1 hx]; exact h1
    · rcases h2 with h2 | h2
      · subst h2; simp at hy
      · obtain ⟨j, hj, rfl⟩ := List.mem_take_iff_getElem.1 hy
        rw [List.getD_eq_getElem?_getD, List.getElem?_eq_getElem (by omega)] at h2
        have h2' : (l[i - 1]'(by omega)).1 < l[i].1 := h2
        by_cases hji : j = i - 1
        · subst hji; exact h2'
        · have := List.pairwise_iff_getElem.1 hv.2 j (i - 1) (by simp; omega) (by simp; omega) (by omega)
          simp only [List.getElem_take] at this
          omega
theorem validL_bad {l : List Ent} {i : Nat} (h : validL (l.take i) = false) : validL l = false := by
  cases hv : validL l with
  | false => rfl
  | true => rw [validL_take hv i] at h; cases h

/-- Two rising lists with the same entries are the same. -/
theorem same_of_mem : ∀ {a b : List Ent}, a.Pairwise (fun x y => x.1 < y.1) → b.Pairwise (fun x y => x.1 < y.1) → (∀ x, x ∈ a ↔ x ∈ b) → a = b := by
  intro a
  induction a with
  | nil =>
    intro b _ _ h
    cases b with
    | nil => rfl
    | cons y b => have := (h y).2 List.mem_cons_self; cases this
  | cons x a ih =>
    intro b ha hb h
    cases b with
    | nil => have := (h x).1 List.mem_cons_self; cases this
    | cons y b =>
      rw [List.pairwise_cons] at ha hb
      have e : x = y := by
        rcases List.mem_cons.1 ((h x).1 List.mem_cons_self) with e | e
        · exact e
        · rcases List.mem_cons.1 ((h y).2 List.mem_cons_self) with f | f
          · exact f.symm
          · have h1 := hb.1 x e; have h2 := ha.1 y f; omega
      subst e
      rw [ih ha.2 hb.2 fun z => ?_]
      constructor
      · intro hz
        rcases List.mem_cons.1 ((h z).1 (List.mem_cons_of_mem _ hz)) with e | e
        · subst e; have := ha.1 z hz; omega
        · exact e
      · intro hz
        rcases List.mem_cons.1 ((h z).2 (List.mem_cons_of_mem _ hz)) with e | e
        · subst e; have := hb.1 z hz; omega
        · exact e

theorem untilS_mem {l : List Ent} {u : Int} (h : untilS l u ≠ -1) : (u, untilS l u) ∈ l := by
  induction l with
  | nil => exact absurd rfl h
  | cons x l ih =>
    rw [untilS] at h ⊢
    by_cases e : x.1 = u
    · rw [if_pos e]; subst e; exact List.mem_cons_self
    · rw [if_neg e] at h ⊢; exact List.mem_cons_of_mem _ (ih h)
theorem untilS_eq {l : List Ent} (hp : l.Pairwise fun x y => x.1 < y.1) {x : Ent} (hx : x ∈ l) : untilS l x.1 = x.2 := by
  induction l with
  | nil => cases hx
  | cons y l ih =>
    rw [List.pairwise_cons] at hp
    rw [untilS]
    rcases List.mem_cons.1 hx with rfl | hx
    · rw [if_pos rfl]
    · rw [if_neg (by have := hp.1 x hx; omega)]; exact ih hp.2 hx
theorem untilS_none {l : List Ent} {u : Int} (h : ∀ x ∈ l, x.1 ≠ u) : untilS l u = -1 := by
  induction l with
  | nil => rfl
  | cons y l ih =>
    rw [untilS, if_neg (h y List.mem_cons_self)]
    exact ih fun x hx => h x (List.mem_cons_of_mem _ hx)
/-- Of a valid list: from 0 on exactly for the receivers that stand there. -/
theorem untilS_valid {l : List Ent} (h : validL l = true) (u t : Int) : (u, t) ∈ l ↔ 0 ≤ t ∧ untilS l u = t := by
  have hv := validL_iff.1 h
  constructor
  · intro hm
    exact ⟨(okE_iff.1 (hv.1 _ hm)).2.2.1, untilS_eq hv.2 hm⟩
  · rintro ⟨h0, rfl⟩
    exact untilS_mem (by omega)
theorem untilS_ge {l : List Ent} (h : validL l = true) (u : Int) : -1 ≤ untilS l u := by
  by_cases e : untilS l u = -1
  · omega
  · have := (untilS_valid h u _).1 (untilS_mem e); omega
theorem untilS_range {l : List Ent} (h : validL l = true) {u : Int} (hu : 0 ≤ untilS l u) : 0 ≤ u ∧ u < 64 ∧ untilS l u ≤ 1099511627776 := by
  have := okE_iff.1 ((validL_iff.1 h).1 _ ((untilS_valid h u _).2 ⟨hu, rfl⟩))
  exact ⟨this.1, this.2.1, this.2.2.2⟩

theorem mergeS_pair (a b : List Ent) : (mergeS a b).Pairwise fun x y => x.1 < y.1 := by
  unfold mergeS
  rw [List.pairwise_filterMap]
  refine List.Pairwise.imp_of_mem ?_ (List.pairwise_lt_range)
  intro u v _ _ huv x hx y hy
  split at hx
  · split at hy
    · simp only [Option.some.injEq] at hx hy
      subst hx hy
      simp only
      omega
    · cases hy
  · cases hx
theorem mergeS_mem {a b : List Ent} (ha : validL a = true) (hb : validL b = true) (u t : Int) : (u, t) ∈ mergeS a b ↔ 0 ≤ t ∧ max (untilS a u) (untilS b u) = t := by
  unfold mergeS
  rw [List.mem_filterMap]
  constructor
  · rintro ⟨v, hv, h⟩
    split at h
    · simp only [Option.some.injEq, Prod.mk.injEq] at h
      obtain ⟨rfl, rfl⟩ := h
      exact ⟨by assumption, rfl⟩
    · cases h
  · rintro ⟨h0, h⟩
    have hu : 0 ≤ u ∧ u < 64 := by
      rcases Int.le_total (untilS a u) (untilS b u) with hle | hle
      · rw [Int.max_eq_right hle] at h
        have := untilS_range hb (u := u) (by omega); omega
      · rw [Int.max_eq_left hle] at h
        have := untilS_range ha (u := u) (by omega); omega
    refine ⟨u.toNat, by simp; omega, ?_⟩
    rw [Int.toNat_of_nonneg hu.1, h, if_pos h0]
theorem mergeS_valid {a b : List Ent} (ha : validL a = true) (hb : validL b = true) : validL (mergeS a b) = true := by
  refine validL_iff.2 ⟨fun x hx => ?_, mergeS_pair a b⟩
  obtain ⟨u, t⟩ := x
  obtain ⟨h0, h⟩ := (mergeS_mem ha hb u t).1 hx
  rw [okE_iff]
  rcases Int.le_total (untilS a u) (untilS b u) with hle | hle
  · rw [Int.max_eq_right hle] at h
    have := untilS_range hb (u := u) (by omega); simp only; omega
  · rw [Int.max_eq_left hle] at h
    have := untilS_range ha (u := u) (by omega); simp only; omega
theorem untilS_merge {a b : List Ent} (ha : validL a = true) (hb : validL b = true) (u : Int) : untilS (mergeS a b) u = max (untilS a u) (untilS b u) := by
  have hm := mergeS_valid ha hb
  have h1 := untilS_ge ha u
  have h2 := untilS_ge hb u
  have h3 := untilS_ge hm u
  by_cases h : 0 ≤ max (untilS a u) (untilS b u)
  · exact ((untilS_valid hm u _).1 ((mergeS_mem ha hb u _).2 ⟨h, rfl⟩)).2
  · by_cases h' : 0 ≤ untilS (mergeS a b) u
    · have := (mergeS_mem ha hb u _).1 ((untilS_valid hm u _).2 ⟨h', rfl⟩)
      omega
    · omega
theorem ext_until {a b : List Ent} (ha : validL a = true) (hb : validL b = true) (h : ∀ u, untilS a u = untilS b u) : a = b :=
  same_of_mem (validL_iff.1 ha).2 (validL_iff.1 hb).2 fun x => by
    obtain ⟨u, t⟩ := x
    rw [untilS_valid ha, untilS_valid hb, h]
theorem mergeS_comm {a b : List Ent} (ha : validL a = true) (hb : validL b = true) : mergeS a b = mergeS b a :=
  ext_until (mergeS_valid ha hb) (mergeS_valid hb ha) fun u => by rw [untilS_merge ha hb, untilS_merge hb ha, Int.max_comm]
theorem mergeS_self {a : List Ent} (ha : validL a = true) : mergeS a a = a :=
  ext_until (mergeS_valid ha ha) ha fun u => by rw [untilS_merge ha ha, Int.max_self]
theorem mergeS_again {a b : List Ent} (ha : validL a = true) (hb : validL b = true) : mergeS (mergeS a b) b = mergeS a b :=
  ext_until (mergeS_valid (mergeS_valid ha hb) hb) (mergeS_valid ha hb) fun u => by rw [untilS_merge (mergeS_valid ha hb) hb, untilS_merge ha hb]; omega

theorem pruneS_valid {l : List Ent} (h : validL l = true) (e : Int) : validL (pruneS l e) = true := by
  rw [validL_iff] at h ⊢
  exact ⟨fun x hx => h.1 x (List.mem_filter.1 hx).1, h.2.filter _⟩
theorem untilS_prune {l : List Ent} (h : validL l = true) {e : Int} (he : 0 ≤ e) (u : Int) : untilS (pruneS l e) u = if e ≤ untilS l u then untilS l u else -1 := by
  have hp := pruneS_valid h e
  split
  · rename_i h1
    have hm : (u, untilS l u) ∈ pruneS l e := List.mem_filter.2 ⟨(untilS_valid h u _).2 ⟨by omega, rfl⟩, by simpa using h1⟩
    exact ((untilS_valid hp u _).1 hm).2
  · rename_i h1
    by_cases h2 : untilS (pruneS l e) u = -1
    · exact h2
    · have hm := List.mem_filter.1 (untilS_mem h2)
      have h3 : untilS l u = untilS (pruneS l e) u := ((untilS_valid h u _).1 hm.1).2
      have h4 : e ≤ untilS (pruneS l e) u := of_decide_eq_true hm.2
      omega
theorem prune_merge {a b : List Ent} (ha : validL a = true) (hb : validL b = true) {e : Int} (he : 0 ≤ e) : mergeS (pruneS a e) (pruneS b e) = pruneS (mergeS a b) e :=
  ext_until (mergeS_valid (pruneS_valid ha e) (pruneS_valid hb e)) (pruneS_valid (mergeS_valid ha hb) e) fun u => by
    rw [untilS_merge (pruneS_valid ha e) (pruneS_valid hb e), untilS_prune ha he, untilS_prune hb he, untilS_prune (mergeS_valid ha hb) he, untilS_merge ha hb]
    have h1 := untilS_ge ha u
    have h2 := untilS_ge hb u
    split <;> split <;> split <;> omega

/-- Ordered by receivers, of one receiver the later epochs first. -/
def leE (x y : Ent) : Prop := x.1 < y.1 ∨ (x.1 = y.1 ∧ y.2 ≤ x.2)
theorem compGo_mem {l : List Ent} {p : Int} {x : Ent} (h : x ∈ compGo p l) : x ∈ l := by
  induction l generalizing p with
  | nil => cases h
  | cons y l ih =>
    rw [compGo] at h
    split at h
    · exact List.mem_cons_of_mem _ (ih h)
    · rcases List.mem_cons.1 h with rfl | h
      · exact List.mem_cons_self
      · exact List.mem_cons_of_mem _ (ih h)
theorem compGo_up {l : List Ent} {p : Int} (hs : l.Pairwise leE) (hp : ∀ x ∈ l, p ≤ x.1) : (∀ x ∈ compGo p l, p < x.1) ∧ (compGo p l).Pairwise fun x y => x.1 < y.1 := by
  induction l generalizing p with
  | nil => exact ⟨by simp [compGo], by rw [compGo]; exact .nil⟩
  | cons y l ih =>
    rw [List.pairwise_cons] at hs
    have hy := hp y List.mem_cons_self
    rw [compGo]
    split
    · exact ih hs.2 fun x hx => hp x (List.mem_cons_of_mem _ hx)
    · have h1 : ∀ x ∈ l, y.1 ≤ x.1 := fun x hx => by rcases hs.1 x hx with h | h <;> omega
      obtain ⟨i1, i2⟩ := ih hs.2 h1
      refine ⟨fun x hx => ?_, List.pairwise_cons.2 ⟨i1, i2⟩⟩
      rcases List.mem_cons.1 hx with rfl | hx
      · omega
      · have := i1 x hx; omega
theorem compGo_all {l : List Ent} {p : Int} (hs : l.Pairwise leE) {x : Ent} (hx : x ∈ l) (hne : x.1 ≠ p) : ∃ t, x.2 ≤ t ∧ (x.1, t) ∈ compGo p l := by
  induction l generalizing p with
  | nil => cases hx
  | cons y l ih =>
    rw [List.pairwise_cons] at hs
    rw [compGo]
    rcases List.mem_cons.1 hx with rfl | hx
    · rw [if_neg hne]
      exact ⟨x.2, Int.le_refl _, List.mem_cons_self⟩
    · split
      · exact ih hs.2 hx hne
      · by_cases e : x.1 = y.1
        · refine ⟨y.2, ?_, by rw [e]; exact List.mem_cons_self⟩
          rcases hs.1 x hx with h | h <;> omega
        · obtain ⟨t, h1, h2⟩ := ih hs.2 hx e
          exact ⟨t, h1, List.mem_cons_of_mem _ h2⟩
theorem compE_mem {l : List Ent} {x : Ent} (h : x ∈ compE l) : x ∈ l := by
  cases l with
  | nil => exact h
  | cons y l =>
    rw [compE] at h
    rcases List.mem_cons.1 h with rfl | h
    · exact List.mem_cons_self
    · exact List.mem_cons_of_mem _ (compGo_mem h)
theorem compE_up {l : List Ent} (hs : l.Pairwise leE) : (compE l).Pairwise fun x y => x.1 < y.1 := by
  cases l with
  | nil => exact .nil
  | cons y l =>
    rw [List.pairwise_cons] at hs
    have h1 : ∀ x ∈ l, y.1 ≤ x.1 := fun x hx => by rcases hs.1 x hx with h | h <;> omega
    obtain ⟨i1, i2⟩ := compGo_up (p := y.1) hs.2 h1
    exact List.pairwise_cons.2 ⟨i1, i2⟩
theorem compE_all {l : List Ent} (hs : l.Pairwise leE) {x : Ent} (hx : x ∈ l) : ∃ t, x.2 ≤ t ∧ (x.1, t) ∈ compE l := by
  cases l with
  | nil => cases hx
  | cons y l =>
    rw [List.pairwise_cons] at hs
    rw [compE]
    by_cases e : x.1 = y.1
    · refine ⟨y.2, ?_, by rw [e]; exact List.mem_cons_self⟩
      rcases List.mem_cons.1 hx with rfl | hx
      · exact Int.le_refl _
      · rcases hs.1 x hx with h | h <;> omega
    · rcases List.mem_cons.1 hx with rfl | hx
      · exact absurd rfl e
      · obtain ⟨t, h1, h2⟩ := compGo_all hs.2 hx e
        exact ⟨t, h1, List.mem_cons_of_mem _ h2⟩
/-- What is sorted and made compact is the merged list. -/
theorem compE_merge {a b s : List Ent} (ha : validL a = true) (hb : validL b = true) (hp : ∀ x, x ∈ s ↔ x ∈ a ∨ x ∈ b) (hs : s.Pairwise leE) : compE s = mergeS a b := by
  refine same_of_mem (compE_up hs) (mergeS_pair a b) fun x => ?_
  obtain ⟨u, t⟩ := x
  have hup := compE_up hs
  have key : ∀ v r, (v, r) ∈ compE s → 0 ≤ r ∧ max (untilS a v) (untilS b v) = r := by
    intro v r hm
    have hge : ∀ r', (v, r') ∈ a ∨ (v, r') ∈ b → r' ≤ r := by
      intro r' h'
      obtain ⟨t', h1, h2⟩ := compE_all hs ((hp _).2 h')
      have e : t' = r := (untilS_eq hup h2).symm.trans (untilS_eq hup hm)
      simp only at h1; omega
    rcases (hp _).1 (compE_mem hm) with h | h
    · obtain ⟨h0, h1⟩ := (untilS_valid ha v r).1 h
      refine ⟨h0, ?_⟩
      by_cases hb' : 0 ≤ untilS b v
      · have := hge _ (.inr ((untilS_valid hb v _).2 ⟨hb', rfl⟩)); omega
      · omega
    · obtain ⟨h0, h1⟩ := (untilS_valid hb v r).1 h
      refine ⟨h0, ?_⟩
      by_cases ha' : 0 ≤ untilS a v
      · have := hge _ (.inl ((untilS_valid ha v _).2 ⟨ha', rfl⟩)); omega
      · omega
  rw [mergeS_mem ha hb]
  constructor
  · exact key u t
  · rintro ⟨h0, h⟩
    have hin : (u, t) ∈ a ∨ (u, t) ∈ b := by
      rcases Int.le_total (untilS a u) (untilS b u) with hle | hle
      · rw [Int.max_eq_right hle] at h
        exact .inr ((untilS_valid hb u t).2 ⟨h0, h⟩)
      · rw [Int.max_eq_left hle] at h
        exact .inl ((untilS_valid ha u t).2 ⟨h0, h⟩)
    obtain ⟨t', h1, h2⟩ := compE_all hs ((hp _).2 hin)
    have := key _ _ h2
    simp only at this h1 h2
    obtain rfl : t' = t := by omega
    exact h2
end Go.Proofs.YtinpiodfpnbllaaGreatDoor

/- Lists of entries in memory. -/
namespace Go.Proofs.YtinpiodfpnbllaaGreatDoor
open Go.RowKit
set_option linter.unusedVariables false

def cellsX (x : Ent) : List Value := [.int .i64 x.1, .int .i64 x.2]
def cellsE (es : List Ent) : List Value := es.flatMap cellsX
theorem cellsE_length : ∀ es : List Ent, (cellsE es).length = es.length * 2
  | [] => rfl
  | x :: es => by
    have := cellsE_length es
    unfold cellsE at this ⊢
    rw [List.flatMap_cons, List.length_append, this, List.length_cons]
    simp only [cellsX, List.length_cons, List.length_nil]
    omega
theorem cellsE_append (a b : List Ent) : cellsE (a ++ b) = cellsE a ++ cellsE b := by simp [cellsE]
theorem cells_oneE (es : List Ent) : ∀ v ∈ cellsE es, v.oneCell' = true := fun v hv => by
  obtain ⟨x, _, hv⟩ := List.mem_flatMap.1 hv
  rcases List.mem_cons.1 hv with rfl | hv
  · rfl
  · rw [List.mem_singleton.1 hv]; rfl
theorem cellsE_get : ∀ (es : List Ent) (i : Nat) (h : i < es.length), (cellsE es)[i * 2]? = some (.int .i64 es[i].1) ∧ (cellsE es)[i * 2 + 1]? = some (.int .i64 es[i].2)
  | [], i, h => absurd h (by simp)
  | x :: es, 0, _ => by constructor <;> rfl
  | x :: es, i + 1, h => by
    have := cellsE_get es i (by simpa using h)
    have e : cellsE (x :: es) = Value.int .i64 x.1 :: Value.int .i64 x.2 :: cellsE es := rfl
    rw [e, show (i + 1) * 2 = i * 2 + 1 + 1 from by omega, List.getElem?_cons_succ, List.getElem?_cons_succ]
    refine ⟨this.1, ?_⟩
    rw [List.getElem?_cons_succ, List.getElem?_cons_succ]
    exact this.2
/-- A slice that reads as entries. -/
def ER (w : World) (A : Option Addr) (c : Nat) (es : List Ent) : Prop := Rd w 2 A c es.length (cellsE es)
section
variable {w w' : World} {c : Nat} {A : Option Addr} {es : List Ent}
theorem ER.below (h : ER w A c es) (hb : Below w.heap.size w w') : ER w' A c es := Rd.below h hb
theorem ER.len (h : ER w A c es) : es.length ≤ 140737488351232 := Rd.len h
theorem ER.at_ (h : ER w A c es) {i : Nat} (hi : i < es.length) : ∃ b off, A = some ⟨b, off, none⟩ ∧ b < w.heap.size ∧ w.cell? ⟨b, off + i * 2, none⟩ = some (.int .i64 es[i].1) ∧ w.cell? ⟨b, off + i * 2 + 1, none⟩ = some (.int .i64 es[i].2) := by
  obtain ⟨b, off, e, hb, hc⟩ := h.2 (by omega)
  have hg := cellsE_get es i hi
  exact ⟨b, off, e, hb, hc _ _ hg.1, by have := hc _ _ hg.2; rwa [← Nat.add_assoc] at this⟩
end
/-- Entries that the call owns. -/
def OE (B : Nat) (w : World) (A : Option Addr) (c : Nat) (es : List Ent) : Prop := w.ownsRow B 98 2 (.slice A es.length c) es.length (cellsE es)
theorem OE.below {B : Nat} {w w' : World} {A : Option Addr} {c : Nat} {es : List Ent} (h : OE B w A c es) (hb : Below w.heap.size w w') : OE B w' A c es := ownsRow_below h hb
theorem OE.er {B : Nat} {w : World} {A : Option Addr} {c : Nat} {es : List Ent} (h : OE B w A c es) (hl : es.length ≤ 140737488351232) : ER w A c es := Rd.of_own h hl
theorem ent_info3 : (Tryz.prog.info? 98).map (fun i => (i.zero, i.size, i.bytes)) = some (some (.agg (cellsX (0, 0)).toArray), 2, 16) := by kernel_rfl
end Go.Proofs.YtinpiodfpnbllaaGreatDoor

/- Entries, lists of entries and proofs of absence among a law's arguments, opened. -/
namespace Go.Proofs.YtinpiodfpnbllaaGreatDoor
open Go.ChangeShapes Go.WideShapes Go.ChangeAt Go.RowKit Go.Deep
set_option linter.unusedVariables false

theorem cells_ent : Tryz.prog.cellsOf 98 = 2 := by kernel_rfl
theorem bytes_ent : Tryz.prog.bytesOf 98 = 16 := by kernel_rfl
theorem cells_proof : Tryz.prog.cellsOf 27 = 3 := by kernel_rfl
theorem entry_of_trod {H : Type} {enc : TypeId × Value → H} {W : World} {fuel : Nat} {cs : List Value} {x : DataW H × List MemPlace} (h : DataW.trod enc Tryz.prog W 0 (fun _ => true) true fuel 98 cs = some x) : ∃ e : Ent, cs = cellsX e := by
  obtain ⟨y0, y1, n, rfl, hl, h0, h1⟩ := trod_struct2 Tryz.underlying98 h
  dsimp only at h0 h1
  rw [cells_i64] at h0 h1
  rw [cells_ent] at hl
  obtain ⟨a, e0, _⟩ := int_of_trod h0
  obtain ⟨b, e1, _⟩ := int_of_trod h1
  refine ⟨(a, b), ?_⟩
  match cs, hl with
  | [u, v], _ =>
    simp only [List.drop_zero, List.take_succ_cons, List.take_zero, List.drop_succ_cons, List.cons.injEq, and_true] at e0 e1
    rw [e0, e1]; rfl
theorem ents_of_trod {H : Type} {enc : TypeId × Value → H} {W : World} {fuel : Nat} {t : TypeId} {cs : List Value} {x : DataW H × List MemPlace} (ht : Tryz.prog.underlying t = some (.slice 98)) (h : DataW.trod enc Tryz.prog W 0 (fun _ => true) true fuel t cs = some x)
    (hw : ∀ n ∈ x.1.weights Tryz.prog t, n ≤ reachBytes) : ∃ A c es, cs = [.slice A (List.length es) c] ∧ ER W A c es ∧ c * 16 ≤ 140737488351232 := by
  obtain ⟨A, len, cap, m, C, D, rfl, hle, hcap, hby, hcell, hel⟩ := slice_of_trod ht cells_ent (by omega) bytes_ent h hw
  obtain ⟨U, hU⟩ := choose_lt (α := Ent) (p := fun i e => C i = cellsX e) (fun i hi => entry_of_trod (hel i hi).2.1)
  have hrd := rd_of_cells (by_ := 16) hle hcap (by omega) (fun i hi => (hel i hi).1) hcell
  have hfl : (List.range len).flatMap C = cellsE ((List.range len).map U) := by
    unfold cellsE
    rw [List.flatMap_def, List.map_congr_left (g := fun i => cellsX (U i)) (fun i hi => hU i (List.mem_range.1 hi)), ← List.flatMap_def]
    generalize List.range len = l
    induction l with
    | nil => rfl
    | cons a l ih => simp [ih]
  rw [hfl] at hrd
  exact ⟨A, cap, (List.range len).map U, by simp, by unfold ER; simpa using hrd, hby⟩
theorem absence_of_trod {H : Type} {enc : TypeId × Value → H} {W : World} {fuel : Nat} {cs : List Value} {x : DataW H × List MemPlace} (h : DataW.trod enc Tryz.prog W 0 (fun _ => true) true fuel 100 cs = some x)
    (hw : ∀ n ∈ x.1.weights Tryz.prog 100, n ≤ reachBytes) : ∃ r0 q0 r1 q1 a b A c P a2 b2 A2 c2 R, cs = [.int .i64 r0, .int .i64 q0, .int .i64 r1, .int .i64 q1, .int .i64 a, .int .i64 b, .slice A (List.length P) c, .int .i64 a2, .int .i64 b2, .slice A2 (List.length R) c2] ∧ KR W A c P ∧ KR W A2 c2 R := by
  obtain ⟨y0, y1, y2, y3, n, rfl, hl, h0, h1, h2, h3⟩ := Go.Joins.trod_struct4 Tryz.underlying100 h
  have hw' : ∀ n ∈ DataW.weightsEach Tryz.prog [98, 98, 27, 27] [y0.1, y1.1, y2.1, y3.1], n ≤ reachBytes := by simpa [DataW.weights, Tryz.underlying100] using hw
  dsimp only at h0 h1 h2 h3
  rw [cells_ent] at h0 h1
  rw [cells_proof] at h2 h3
  rw [show Tryz.prog.cellsOf 100 = 10 from by kernel_rfl] at hl
  obtain ⟨lo, e0⟩ := entry_of_trod h0
  obtain ⟨hi, e1⟩ := entry_of_trod h1
  obtain ⟨a, b, A, c, P, e2, hk⟩ := proof_of_trod h2 (fun m hm => hw' m (DataW.weights_mem_each (j := 2) rfl rfl m hm))
  obtain ⟨a2, b2, A2, c2, R, e3, hk2⟩ := proof_of_trod h3 (fun m hm => hw' m (DataW.weights_mem_each (j := 3) rfl rfl m hm))
  refine ⟨lo.1, lo.2, hi.1, hi.2, a, b, A, c, P, a2, b2, A2, c2, R, ?_, hk, hk2⟩
  match cs, hl with
  | [x0, x1, x2, x3, x4, x5, x6, x7, x8, x9], _ =>
    simp only [cellsX, List.drop_zero, List.take_succ_cons, List.take_zero, List.drop_succ_cons, List.cons.injEq, and_true] at e0 e1 e2 e3
    rw [e0.1, e0.2, e1.1, e1.2, e2.1, e2.2.1, e2.2.2, e3.1, e3.2.1, e3.2.2]
set_option maxRecDepth 100000 in
theorem open_entries {H : Type} {enc : TypeId × Value → H} {W : World} {b0 : Nat} {v : Value} {d : DataW H} {ps : List MemPlace} (hval : Value.okWide Tryz.prog W .any b0 56 v) (hd : DataW.Trod enc Tryz.prog W 0 (fun _ => true) true 56 v d ps)
    (hw : ∀ n ∈ d.weights Tryz.prog 56, n ≤ reachBytes) : ∃ A c z, v = .slice A (List.length z) c ∧ ER W A c z ∧ c * 16 ≤ 140737488351232 := by
  obtain ⟨fuel, hf⟩ := hd
  obtain ⟨A, c, z, e, h, hc⟩ := ents_of_trod Tryz.underlying56 hf hw
  exact ⟨A, c, z, slice_val Tryz.underlying56 hval e, h, hc⟩
set_option maxRecDepth 100000 in
theorem open_entry {H : Type} {enc : TypeId × Value → H} {W : World} {b0 : Nat} {v : Value} {d : DataW H} {ps : List MemPlace} (hval : Value.okWide Tryz.prog W .any b0 98 v) (hd : DataW.Trod enc Tryz.prog W 0 (fun _ => true) true 98 v d ps) :
    ∃ r u, v = .agg #[.int .i64 r, .int .i64 u] := by
  obtain ⟨cs, rfl, hsz⟩ := okWide_struct Tryz.underlying98 hval
  obtain ⟨fuel, hf⟩ := hd
  obtain ⟨e, h⟩ := entry_of_trod hf
  refine ⟨e.1, e.2, ?_⟩
  have : cs = cs.toList.toArray := by simp
  rw [this]
  exact congrArg (fun l => Value.agg (List.toArray l)) h
set_option maxRecDepth 100000 in
theorem open_absence {H : Type} {enc : TypeId × Value → H} {W : World} {b0 : Nat} {v : Value} {d : DataW H} {ps : List MemPlace} (hval : Value.okWide Tryz.prog W .any b0 100 v) (hd : DataW.Trod enc Tryz.prog W 0 (fun _ => true) true 100 v d ps)
    (hw : ∀ n ∈ d.weights Tryz.prog 100, n ≤ reachBytes) : ∃ r0 q0 r1 q1 a b A c P a2 b2 A2 c2 R, v = .agg #[.int .i64 r0, .int .i64 q0, .int .i64 r1, .int .i64 q1, .int .i64 a, .int .i64 b, .slice A (List.length P) c, .int .i64 a2, .int .i64 b2, .slice A2 (List.length R) c2] ∧ KR W A c P ∧ KR W A2 c2 R := by
  obtain ⟨cs, rfl, hsz⟩ := okWide_struct Tryz.underlying100 hval
  obtain ⟨fuel, hf⟩ := hd
  obtain ⟨r0, q0, r1, q1, a, b, A, c, P, a2, b2, A2, c2, R, e, h1, h2⟩ := absence_of_trod hf hw
  refine ⟨r0, q0, r1, q1, a, b, A, c, P, a2, b2, A2, c2, R, ?_, h1, h2⟩
  have : cs = cs.toList.toArray := by simp
  rw [this]
  exact congrArg (fun l => Value.agg (List.toArray l)) e
end Go.Proofs.YtinpiodfpnbllaaGreatDoor

/- Symbols: words and copies, in the program and in the reference. -/
namespace Go.Proofs.YtinpiodfpnbllaaGreatDoor
open Go.RowKit
set_option linter.unusedVariables false

/-- All symbols are at most m. -/
def symB (l : List UInt8) (m : Nat) : Bool := l.all fun c => decide (c.toNat ≤ m)
theorem symB_iff {l : List UInt8} {m : Nat} : symB l m = true ↔ ∀ i, i < l.length → bt l i ≤ m := by
  unfold symB
  rw [List.all_eq_true]
  constructor
  · intro h i hi
    rw [bt_in hi]
    simpa using h _ (List.getElem_mem hi)
  · intro h c hc
    obtain ⟨i, hi, rfl⟩ := List.getElem_of_mem hc
    have := h i hi
    rw [bt_in hi] at this
    simpa using this
theorem symB_no {l : List UInt8} {m i : Nat} (hi : i < l.length) (h : m < bt l i) : symB l m = false := by
  cases hs : symB l m
  · rfl
  · have := symB_iff.1 hs i hi
    omega
/-- A word, a copy of n places. -/
def wordB (l : List UInt8) (n : Nat) : Bool := decide (l.length = n) && symB l 1
def copyB (l : List UInt8) (n : Nat) : Bool := decide (l.length = n) && symB l 2

theorem ret_int' {k : IntKind} {a b : Int} (h : a = b) : Ending.returned (.int k a) = .returned (.int k b) := by rw [h]
theorem ret_bool' {a b : Bool} (h : a = b) : Ending.returned (.bool a) = .returned (.bool b) := by rw [h]
theorem int_le_of' {a b : Nat} (h : a ≤ b) : (a : Int) ≤ b := by omega

set_option maxHeartbeats 400000 in
theorem symbols_any (A : Option Addr) (c : Nat) (l : List UInt8) (m : Nat) (w : World) {n : Nat} (hn : l.length = n) (h : BR w A c l) (hm : m ≤ 255) :
    Calls Tryz.prog 88 #[.slice A n c, .int .u8 (m : Int)] w fun e w' => e = .returned (.bool (symB l m)) ∧ w = w' := by
  have hlen : (n : Int) ≤ 140737488351232 := by have := h.len; omega
  have HN := Lib.hid hn
  have H := Lib.hid h
  clear hn h
  go_enter Tryz.func88, Tryz.ntmps88
  go_wp2_with fail
  go_loop [5] (fun vk => ∃ k : Nat, k ≤ n ∧ vk = .int .i64 k ∧ Hid (∀ j, j < k → bt l j ≤ m)) (fun vk => n - (intOf vk).toNat)
  case atStart => exact ⟨0, by omega, rfl, fun j hj => absurd hj (by omega)⟩
  case round =>
    obtain ⟨k, hk, rfl, HK⟩ := hrel
    by_cases hkn : k < n
    · obtain ⟨b, off, rfl, hb, hc⟩ := H.out.at_ (i := k) (by have := HN.out; omega)
      have hx := bt_le l k
      by_cases hle : bt l k ≤ m
      · have HK2 : Hid (∀ j, j < k + 1 → bt l j ≤ m) := fun j hj => by
          rcases Nat.lt_or_ge j k with h' | h'
          · exact HK.out j h'
          · rw [show j = k from by omega]; exact hle
        have t1 : decide ((m : Int) < (bt l k : Int)) = false := by simp; omega
        have t1' : decide (m < bt l k) = false := by simp; omega
        clear hle
        go_wp2_with fail
        go_round
        case rel => exact ⟨k + 1, by omega, by go_num, HK2⟩
        case measure => simp [intOf]; omega
      · have HF : Hid (symB l m = false) := symB_no (i := k) (by have := HN.out; omega) (by omega)
        have t1 : decide ((m : Int) < (bt l k : Int)) = true := by simp; omega
        have t1' : decide (m < bt l k) = true := by simp; omega
        clear hle
        go_wp2_with fail
        go_ret
        exact ⟨ret_bool' HF.out.symm, rfl⟩
    · have HT : Hid (symB l m = true) := symB_iff.2 fun i hi => HK.out i (by have := HN.out; omega)
      go_wp2_with fail
      go_ret
      exact ⟨ret_bool' HT.out.symm, rfl⟩

set_option maxHeartbeats 400000 in
theorem refIsWord_any (A : Option Addr) (c : Nat) (l : List UInt8) (m : Nat) (w : World) {n : Nat} (hn : l.length = n) (h : BR w A c l) (hm : m ≤ 140737488351232) :
    Calls Tryz.prog 35 #[.slice A n c, .int .i64 (m : Int)] w fun e w' => e = .returned (.bool (wordB l m)) ∧ w = w' := by
  have hlen : (n : Int) ≤ 140737488351232 := by have := h.len; omega
  have HN := Lib.hid hn
  have H := Lib.hid h
  by_cases e : n = m
  · have HS : Hid (wordB l m = symB l 1) := by unfold Hid wordB; rw [hn, e]; simp
    have t1 : ((n : Int) == (m : Int)) = true := by simp; omega
    have t2 : (n == m) = true := by simp; omega
    clear hn h e
    go_enter Tryz.func35, Tryz.ntmps35
    go_wp2_with (go_at_call 88; refine (symbols_any A c l 1 _ HN.out H.out (by omega)).mono ?_; rintro e w' ⟨rfl, rfl⟩)
    go_ret
    exact ⟨ret_bool' HS.out.symm, rfl⟩
  · have HS : Hid (wordB l m = false) := by unfold Hid wordB; rw [hn]; simp [e]
    have t1 : ((n : Int) == (m : Int)) = false := by simp; omega
    have t2 : (n == m) = false := by simp; omega
    clear hn h e
    go_enter Tryz.func35, Tryz.ntmps35
    go_wp2_with fail
    go_ret
    exact ⟨ret_bool' HS.out.symm, rfl⟩
set_option maxHeartbeats 400000 in
theorem refIsCopy_any (A : Option Addr) (c : Nat) (l : List UInt8) (m : Nat) (w : World) {n : Nat} (hn : l.length = n) (h : BR w A c l) (hm : m ≤ 140737488351232) :
    Calls Tryz.prog 34 #[.slice A n c, .int .i64 (m : Int)] w fun e w' => e = .returned (.bool (copyB l m)) ∧ w = w' := by
  have hlen : (n : Int) ≤ 140737488351232 := by have := h.len; omega
  have HN := Lib.hid hn
  have H := Lib.hid h
  by_cases e : n = m
  · have HS : Hid (copyB l m = symB l 2) := by unfold Hid copyB; rw [hn, e]; simp
    have t1 : ((n : Int) == (m : Int)) = true := by simp; omega
    have t2 : (n == m) = true := by simp; omega
    clear hn h e
    go_enter Tryz.func34, Tryz.ntmps34
    go_wp2_with (go_at_call 88; refine (symbols_any A c l 2 _ HN.out H.out (by omega)).mono ?_; rintro e w' ⟨rfl, rfl⟩)
    go_ret
    exact ⟨ret_bool' HS.out.symm, rfl⟩
  · have HS : Hid (copyB l m = false) := by unfold Hid copyB; rw [hn]; simp [e]
    have t1 : ((n : Int) == (m : Int)) = false := by simp; omega
    have t2 : (n == m) = false := by simp; omega
    clear hn h e
    go_enter Tryz.func34, Tryz.ntmps34
    go_wp2_with fail
    go_ret
    exact ⟨ret_bool' HS.out.symm, rfl⟩

/-- How many symbols are v, where whatever is above 2 counts as 3. -/
def cn (l : List UInt8) (v : Nat) : Nat := l.countP fun c => decide (min c.toNat 3 = v)
def cntV (l : List UInt8) : Array Value := #[.int .i64 (cn l 0), .int .i64 (cn l 1), .int .i64 (cn l 2), .int .i64 (cn l 3)]
theorem cn_cons (a : UInt8) (l : List UInt8) (v : Nat) : cn (a :: l) v = cn l v + if min a.toNat 3 = v then 1 else 0 := by simp [cn, List.countP_cons]
theorem cn_snoc (a : UInt8) (l : List UInt8) (v : Nat) : cn (l ++ [a]) v = cn l v + if min a.toNat 3 = v then 1 else 0 := by simp [cn, List.countP_append, List.countP_cons]
theorem cn_sum (l : List UInt8) : cn l 0 + cn l 1 + cn l 2 + cn l 3 = l.length := by
  induction l with
  | nil => rfl
  | cons a l ih =>
    rw [cn_cons, cn_cons, cn_cons, cn_cons, List.length_cons]
    have h : min a.toNat 3 = 0 ∨ min a.toNat 3 = 1 ∨ min a.toNat 3 = 2 ∨ min a.toNat 3 = 3 := by omega
    rcases h with h | h | h | h <;> rw [h] <;> simp <;> omega
theorem cn_take_succ {l : List UInt8} {k v : Nat} (h : k < l.length) : cn (l.take (k + 1)) v = cn (l.take k) v + if min (bt l k) 3 = v then 1 else 0 := by
  rw [List.take_succ_eq_append_getElem h, bt_in h, cn_snoc]
theorem cn_le (l : List UInt8) (v : Nat) : cn l v ≤ l.length := List.countP_le_length
theorem word_cn (l : List UInt8) (n : Nat) : wordB l n = true ↔ cn l 1 + cn l 0 = n ∧ cn l 2 = 0 ∧ cn l 3 = 0 := by
  unfold wordB symB
  have hs := cn_sum l
  have h23 : l.all (fun c => decide (c.toNat ≤ 1)) = true ↔ cn l 2 = 0 ∧ cn l 3 = 0 := by
    simp only [cn, List.countP_eq_zero, List.all_eq_true, decide_eq_true_eq]
    constructor
    · intro h; exact ⟨fun a ha => by have := h a ha; omega, fun a ha => by have := h a ha; omega⟩
    · rintro ⟨h1, h2⟩ a ha; have := h1 a ha; have := h2 a ha; omega
  rw [Bool.and_eq_true, h23, decide_eq_true_eq]
  omega
theorem copy_cn (l : List UInt8) (n : Nat) : copyB l n = true ↔ l.length = n ∧ cn l 3 = 0 := by
  unfold copyB symB
  have h3 : l.all (fun c => decide (c.toNat ≤ 2)) = true ↔ cn l 3 = 0 := by
    simp only [cn, List.countP_eq_zero, List.all_eq_true, decide_eq_true_eq]
    constructor
    · intro h a ha; have := h a ha; omega
    · intro h1 a ha; have := h1 a ha; omega
  rw [Bool.and_eq_true, h3, decide_eq_true_eq]

theorem cnt_cong {a b c d a' b' c' d' : Nat} (h1 : a = a') (h2 : b = b') (h3 : c = c') (h4 : d = d') : (#[.int .i64 (a : Int), .int .i64 (b : Int), .int .i64 (c : Int), .int .i64 (d : Int)] : Array Value) = #[.int .i64 (a' : Int), .int .i64 (b' : Int), .int .i64 (c' : Int), .int .i64 (d' : Int)] := by
  rw [h1, h2, h3, h4]
end Go.Proofs.YtinpiodfpnbllaaGreatDoor

/- Halves and copies: the program's and the reference's. -/
namespace Go.Proofs.YtinpiodfpnbllaaGreatDoor
open Go.RowKit
set_option linter.unusedVariables false
set_option linter.unusedSimpArgs false

/-- The greatest of the first k symbols. -/
def mxB (l : List UInt8) (k : Nat) : Nat := (l.take k).foldl (fun a c => max a c.toNat) 0
theorem mxB_succ {l : List UInt8} {k : Nat} (h : k < l.length) : mxB l (k + 1) = max (mxB l k) (bt l k) := by
  unfold mxB
  rw [List.take_succ_eq_append_getElem h, List.foldl_append, bt_in h]; rfl
theorem mxB_le {l : List UInt8} {k m : Nat} (h : k ≤ l.length) : mxB l k ≤ m ↔ ∀ i, i < k → bt l i ≤ m := by
  induction k with
  | zero => simp [mxB]
  | succ k ih =>
    rw [mxB_succ (by omega)]
    have := ih (by omega)
    constructor
    · intro hm i hi
      rcases Nat.lt_or_ge i k with h' | h'
      · exact this.1 (by omega) i h'
      · rw [show i = k from by omega]; omega
    · intro hm
      have h1 := this.2 fun i hi => hm i (by omega)
      have h2 := hm k (by omega)
      omega
theorem mxB_255 {l : List UInt8} {k : Nat} (h : k ≤ l.length) : mxB l k ≤ 255 := (mxB_le h).2 fun i _ => by have := bt_lt l i; omega
/-- From 1 to 64 symbols, all of them at most m. -/
def halfB (l : List UInt8) (m : Nat) : Bool := decide (1 ≤ l.length ∧ l.length ≤ 64) && symB l m
theorem halfB_iff {l : List UInt8} {m : Nat} : halfB l m = true ↔ (1 ≤ l.length ∧ l.length ≤ 64) ∧ symB l m = true := by simp [halfB]

set_option maxHeartbeats 2000000 in
theorem max_any (A : Option Addr) (c : Nat) (l : List UInt8) (w : World) {n : Nat} (hn : l.length = n) (h0 : 1 ≤ n) (h : BR w A c l) :
    Calls Tryz.prog 120 #[.slice A n c] w fun e w' => e = .returned (.int .u8 (mxB l n : Int)) ∧ w = w' := by
  have hlen : (n : Int) ≤ 140737488351232 := by have := h.len; omega
  have h0i : (1 : Int) ≤ n := by omega
  have HN := Lib.hid hn
  have H := Lib.hid h
  obtain ⟨b, off, hA, hb, hc0⟩ := h.at_ (i := 0) (by omega)
  subst hA
  have HB : Hid (∀ i, i < n → w.cell? ⟨b, off + i, none⟩ = some (.int .u8 (bt l i : Int))) := fun i hi => by
    obtain ⟨b', off', e, _, hc⟩ := H.out.at_ (i := i) (by have := HN.out; omega)
    injection e with e
    injection e with e1 e2
    subst e1 e2
    exact hc
  have c0 : w.cell? ⟨b, off, none⟩ = some (.int .u8 (bt l 0 : Int)) := hc0
  have H1 : Hid (mxB l 1 = bt l 0) := by unfold Hid; rw [mxB_succ (by omega)]; simp [mxB]
  clear hn h hc0
  go_enter Tryz.func120, Tryz.ntmps120
  go_wp2_with fail
  go_loop [3, 4] (fun vm vk => ∃ (k M : Nat), 1 ≤ k ∧ k ≤ n ∧ vk = .int .i64 (k : Int) ∧ vm = .int .u8 (M : Int) ∧ Hid (mxB l k = M)) (fun _ vk => n - (intOf vk).toNat)
  case atStart => exact ⟨1, bt l 0, by omega, h0, rfl, rfl, H1.out⟩
  case round =>
    obtain ⟨k, M, hk1, hk, rfl, rfl, HM⟩ := hrel
    by_cases hkn : k < n
    · have hc := HB.out k hkn
      have hki : (k : Int) < n := by omega
      have HM2 : Hid (mxB l (k + 1) = max M (bt l k)) := by unfold Hid; rw [mxB_succ (by have := HN.out; omega), HM.out]
      obtain ⟨x, hx⟩ : ∃ x, bt l k = x := ⟨_, rfl⟩
      rw [hx] at hc HM2
      clear hx
      go_wp2_with fail
      go_round
      case rel => exact ⟨k + 1, max M x, by omega, by omega, by go_num, by first | rfl | (congr 1; omega), HM2.out⟩
      case measure => simp [intOf]; omega
    · obtain rfl : k = n := by omega
      have hki : (k : Int) ≤ k := Int.le_refl _
      go_wp2_with fail
      go_ret
      exact ⟨by rw [HM.out]; rfl, rfl⟩

set_option maxHeartbeats 2000000 in
theorem auditSyms_any (A : Option Addr) (c : Nat) (l : List UInt8) (m : Nat) (w : World) {n : Nat} (hn : l.length = n) (h : BR w A c l) (hm : m ≤ 255) :
    Calls Tryz.prog 61 #[.slice A n c, .int .u8 (m : Int)] w fun e w' => e = .returned (.bool (halfB l m)) ∧ w = w' := by
  have hlen : (n : Int) ≤ 140737488351232 := by have := h.len; omega
  rcases (by omega : n < 1 ∨ 64 < n ∨ (1 ≤ n ∧ n ≤ 64)) with h1 | h1 | ⟨h1, h2⟩
  · have HF : Hid (halfB l m = false) := by unfold Hid halfB; rw [hn, decide_eq_false (by omega)]; rfl
    have s0 : decide ((1 : Int) ≤ (n : Int)) = false := decide_eq_false (by omega)
    have s1 : decide (1 ≤ n) = false := decide_eq_false (by omega)
    clear hn h h1
    go_enter Tryz.func61, Tryz.ntmps61
    go_wp2_with fail
    go_ret
    exact ⟨by rw [HF.out]; rfl, rfl⟩
  · have HF : Hid (halfB l m = false) := by unfold Hid halfB; rw [hn, decide_eq_false (by omega)]; rfl
    have s0 : decide ((1 : Int) ≤ (n : Int)) = true := decide_eq_true (by omega)
    have s1 : decide (1 ≤ n) = true := decide_eq_true (by omega)
    have s2 : decide ((n : Int) ≤ 64) = false := decide_eq_false (by omega)
    have s3 : decide (n ≤ 64) = false := decide_eq_false (by omega)
    clear hn h h1
    go_enter Tryz.func61, Tryz.ntmps61
    go_wp2_with fail
    go_ret
    exact ⟨by rw [HF.out]; rfl, rfl⟩
  · have HF : Hid (halfB l m = symB l m) := by unfold Hid halfB; rw [hn, decide_eq_true ⟨h1, h2⟩]; rfl
    have s0 : decide ((1 : Int) ≤ (n : Int)) = true := decide_eq_true (by omega)
    have s1 : decide (1 ≤ n) = true := decide_eq_true (by omega)
    have s2 : decide ((n : Int) ≤ 64) = true := decide_eq_true (by omega)
    have s3 : decide (n ≤ 64) = true := decide_eq_true (by omega)
    have HX := Lib.hid (max_any A c l w hn h1 h)
    have HS : Hid (decide ((mxB l n : Int) ≤ (m : Int)) = symB l m) := by
      unfold Hid
      have e := mxB_le (l := l) (k := n) (m := m) (by omega)
      rw [← hn, ← symB_iff, hn] at e
      cases hs : symB l m with
      | true => exact decide_eq_true (by have := e.2 hs; omega)
      | false => exact decide_eq_false (fun hle => by have := e.1 (by omega); rw [hs] at this; cases this)
    have hx := mxB_255 (l := l) (k := n) (by omega)
    obtain ⟨M, hM⟩ : ∃ M, mxB l n = M := ⟨_, rfl⟩
    rw [hM] at HX HS hx
    have hmi : (m : Int) ≤ 255 := by omega
    have hxi : (M : Int) ≤ 255 := by omega
    clear hn h h1 h2 hM
    cases hs : symB l m with
    | true =>
      rw [hs] at HS HF
      have t0 := HS.out
      have t1 : decide (M ≤ m) = true := decide_eq_true (by have := of_decide_eq_true HS.out; omega)
      clear hs
      go_enter Tryz.func61, Tryz.ntmps61
      go_wp2_with (go_at_call 120; refine HX.out.mono ?_; rintro e w' ⟨rfl, rfl⟩)
      go_ret
      exact ⟨by rw [HF.out]; rfl, rfl⟩
    | false =>
      rw [hs] at HS HF
      have t0 := HS.out
      have t1 : decide (M ≤ m) = false := decide_eq_false (by have := of_decide_eq_false HS.out; omega)
      clear hs
      go_enter Tryz.func61, Tryz.ntmps61
      go_wp2_with (go_at_call 120; refine HX.out.mono ?_; rintro e w' ⟨rfl, rfl⟩)
      go_ret
      exact ⟨by rw [HF.out]; rfl, rfl⟩

set_option maxHeartbeats 2000000 in
theorem isHalf_any (A : Option Addr) (c : Nat) (l : List UInt8) (w : World) {n : Nat} (hn : l.length = n) (h : BR w A c l) :
    Calls Tryz.prog 33 #[.slice A n c] w fun e w' => e = .returned (.bool (halfB l 1)) ∧ w = w' := by
  have hlen : (n : Int) ≤ 140737488351232 := by have := h.len; omega
  rcases (by omega : n < 1 ∨ 64 < n ∨ (1 ≤ n ∧ n ≤ 64)) with h1 | h1 | ⟨h1, h2⟩
  · have HF : Hid (halfB l 1 = false) := by unfold Hid halfB; rw [hn, decide_eq_false (by omega)]; rfl
    have s0 : decide ((1 : Int) ≤ (n : Int)) = false := decide_eq_false (by omega)
    have s1 : decide (1 ≤ n) = false := decide_eq_false (by omega)
    clear hn h h1
    go_enter Tryz.func33, Tryz.ntmps33
    go_wp2_with fail
    go_ret
    exact ⟨by rw [HF.out]; rfl, rfl⟩
  · have HF : Hid (halfB l 1 = false) := by unfold Hid halfB; rw [hn, decide_eq_false (by omega)]; rfl
    have s0 : decide ((1 : Int) ≤ (n : Int)) = true := decide_eq_true (by omega)
    have s1 : decide (1 ≤ n) = true := decide_eq_true (by omega)
    have s2 : decide ((n : Int) ≤ 64) = false := decide_eq_false (by omega)
    have s3 : decide (n ≤ 64) = false := decide_eq_false (by omega)
    clear hn h h1
    go_enter Tryz.func33, Tryz.ntmps33
    go_wp2_with fail
    go_ret
    exact ⟨by rw [HF.out]; rfl, rfl⟩
  · have HF : Hid (halfB l 1 = wordB l n) := by unfold Hid halfB wordB; rw [hn, decide_eq_true ⟨h1, h2⟩]; simp
    have s0 : decide ((1 : Int) ≤ (n : Int)) = true := decide_eq_true (by omega)
    have s1 : decide (1 ≤ n) = true := decide_eq_true (by omega)
    have s2 : decide ((n : Int) ≤ 64) = true := decide_eq_true (by omega)
    have s3 : decide (n ≤ 64) = true := decide_eq_true (by omega)
    have HX := Lib.hid (refIsWord_any A c l n w hn h (by omega))
    generalize wordB l n = v at HX HF
    clear hn h h1 h2
    go_enter Tryz.func33, Tryz.ntmps33
    go_wp2_with (go_at_call 35; refine HX.out.mono ?_; rintro e w' ⟨rfl, rfl⟩)
    go_ret
    exact ⟨by rw [HF.out]; rfl, rfl⟩
end Go.Proofs.YtinpiodfpnbllaaGreatDoor

/- slices.Concat at bytes. -/
namespace Go.Proofs.YtinpiodfpnbllaaGreatDoor
open Go.RowKit
set_option linter.unusedVariables false

theorem wpList_grow (w : World) {ops : Array Oper} {rest : List Oper} {o : Oper} {a : Act} {Q : Exit → Act → World → Prop} (hgd : o.guard = none) (s x : Operand)
    (ho : o.op = .call { callee := .builtin .append, args := #[s, x], argTypes := #[22, 3] }) (k : Nat) (hs : a.eval s = .slice none 0 0) (hx : a.eval x = .int .i64 (k : Int)) (h0 : 0 < k) (hk : k ≤ 1000000)
    (h : ∀ c w', OB w.heap.size w' (some ⟨w.heap.size, 0, none⟩) c [] → k ≤ c → c ≤ 9223372036854775807 → Below w.heap.size w w' → wpList Tryz.prog ops Q rest (a.put o.dst (.slice (some ⟨w.heap.size, 0, none⟩) k c)) w') : wpList Tryz.prog ops Q (o :: rest) a w := by
  obtain ⟨i0, hi, hz0, hz1, hz2⟩ := info_parts u8_info'
  have hfit : Builtin.nextslicecap (0 + k) 0 * i0.bytes ≤ 281474976710656 := by
    rw [hz2]
    unfold Builtin.nextslicecap
    simp only [Nat.zero_add]
    split <;> simp <;> omega
  have hrun := Lib.run_append_grow_zeros (P := Tryz.prog) w 22 3 o.type 5 i0 (.int .u8 0) .i64 .i64 Tryz.underlying22 Tryz.underlying3 hi hz0 none 0 0 [] (by simp [Builtin.firstCells]) k h0 (by rw [hz1]; omega) (by omega) (by omega) (by rw [hz2]; omega) hfit
  refine wpList_plain hgd fun K hK => ?_
  rw [Nat.zero_add] at hrun
  have hge := grownCap_ge w k 0 5
  have hle := grownCap_le_maxLen w k 0 5 (by simp only [maxLen]; omega)
  have ho1 : OB w.heap.size (w.drew.alloc (.cells (([] : List Value).toArray ++ Builtin.zeroCells (Value.int .u8 0).cells k ++ Builtin.zeroCells (Value.int .u8 0).cells (grownCap w k 0 5 - k)) 5)) (some ⟨w.heap.size, 0, none⟩) (grownCap w k 0 5) [] :=
    ⟨rfl, .inr ⟨w.heap.size, _, _, rfl, Nat.le_refl _, heap_alloc_new w.drew _, Nat.zero_le _, hle, by simp [size_zeroCells, Value.cells]; omega, by simp [cellsB]⟩⟩
  have hb1 : Below w.heap.size w (w.drew.alloc (.cells (([] : List Value).toArray ++ Builtin.zeroCells (Value.int .u8 0).cells k ++ Builtin.zeroCells (Value.int .u8 0).cells (grownCap w k 0 5 - k)) 5)) := (Below.refl _ w).drew.alloc (Nat.le_refl _) _
  unfold Oper.wp
  simp only [execOp, ho, resolve, invoke, builtin, Sem.run_bind, Sem.run_pure, Result.andThen_ok, List.map_toArray, List.map_cons, List.map_nil, hs, hx, hrun]
  exact hK _ _ (h _ _ ho1 hge (by simpa [maxLen] using hle) hb1)

set_option maxHeartbeats 1000000 in
theorem Grow_any (n : Nat) (w : World) (h0 : 0 < n) (hn : n ≤ 1000000) : Calls Tryz.prog 158 #[.slice none 0 0, .int .i64 (n : Int)] w fun e w' => (∃ A c, e = .returned (.slice A 0 c) ∧ OB w.heap.size w' A c []) ∧ Below w.heap.size w w' := by
  have hni : (n : Int) ≤ 1000000 := by omega
  have h0i : (0 : Int) < (n : Int) := by omega
  go_enter Tryz.func158, Tryz.ntmps158
  go_wp2_with (at_builtin; refine wpList_grow _ rfl (.tmp 20) (.tmp 21) rfl n rfl rfl h0 hn ?_; intro c1 w1 ho1 hc1 hc2 hb1; have HO1 := Lib.hid ho1; clear ho1)
  go_ret
  exact ⟨⟨_, c1, rfl, HO1.out⟩, hb1⟩

/-- The first i rows, one behind the other. -/
def catL (rs : List BRow) (i : Nat) : List UInt8 := (rs.take i).flatMap BRow.l
theorem catL_succ {rs : List BRow} {i : Nat} {r : BRow} (h : rs[i]? = some r) : catL rs (i + 1) = catL rs i ++ r.l := by
  obtain ⟨hi, he⟩ := List.getElem?_eq_some_iff.1 h
  rw [catL, List.take_succ_eq_append_getElem hi, List.flatMap_append, he]
  simp [catL]
theorem catL_le (rs : List BRow) {i n : Nat} (h : i ≤ n) : (catL rs i).length ≤ (catL rs n).length := by
  have e : (rs.take n).take i = rs.take i := by rw [List.take_take, Nat.min_eq_left h]
  have this := (List.take_append_drop i (rs.take n)).symm
  rw [e] at this
  rw [catL, catL, this, List.flatMap_append, List.length_append]
  omega
theorem RR.cellAt {w : World} {A : Option Addr} {c : Nat} {rs : List BRow} (h : RR w A c rs) {i : Nat} (hi : i < rs.length) :
    ∃ b off r, A = some ⟨b, off, none⟩ ∧ b < w.heap.size ∧ rs[i]? = some r ∧ w.cell? ⟨b, off + i, none⟩ = some (.slice r.A r.l.length r.c) ∧ BR w r.A r.c r.l := by
  obtain ⟨b, off, e, hb, v, hv, hc⟩ := Rd.at1 h.1 hi
  have hr : rs[i]? = some rs[i] := List.getElem?_eq_getElem hi
  rw [List.getElem?_map, hr] at hv
  injection hv with hv
  subst hv
  exact ⟨b, off, rs[i], e, hb, hr, hc, h.2 _ (List.getElem_mem hi)⟩
theorem RR.on {w w' : World} {A : Option Addr} {c : Nat} {rs : List BRow} (h : RR w A c rs) (hb : Below w.heap.size w w') : RR w' A c rs := ⟨h.1.below hb, fun r hr => (h.2 r hr).below hb⟩

set_option maxHeartbeats 1000000 in
set_option maxRecDepth 100000 in
theorem Concat_any (A : Option Addr) (c : Nat) (rs : List BRow) (w : World) {n N : Nat} (hn : rs.length = n) (h : RR w A c rs) (hN : (catL rs n).length = N) (h0 : 0 < N) (hb : N ≤ 1000000) :
    Calls Tryz.prog 122 #[.slice A n c] w fun e w' => (∃ A' c', e = .returned (.slice A' N c') ∧ OB w.heap.size w' A' c' (catL rs n)) ∧ Below w.heap.size w w' := by
  have HN := Lib.hid hn
  have HNN := Lib.hid hN
  have H := Lib.hid h
  have hni : (N : Int) ≤ 1000000 := by omega
  have hnl : (n : Int) ≤ 140737488351232 := by have := h.1.len; omega
  have HGR : Hid (∀ W, Calls Tryz.prog 158 #[.slice none 0 0, .int .i64 (N : Int)] W fun e w' => (∃ A c, e = .returned (.slice A 0 c) ∧ OB W.heap.size w' A c []) ∧ Below W.heap.size W w') := fun W => Grow_any N W h0 hb
  clear hn hN h
  go_enter Tryz.func122, Tryz.ntmps122
  go_wp2_with fail
  go_loop [3, 11] (fun vs vi => ∃ (i m : Nat), i ≤ n ∧ vi = .int .i64 (i : Int) ∧ vs = .int .i64 (m : Int) ∧ Hid ((catL rs i).length = m)) (fun _ vi => n - (intOf vi).toNat)
  case atStart => exact ⟨0, 0, by omega, rfl, rfl, rfl⟩
  case round =>
    obtain ⟨i, m, hi, rfl, rfl, HM⟩ := hrel
    have hmN : m ≤ N := by have h1 := catL_le rs hi; rw [HM.out, HNN.out] at h1; exact h1
    have hmi : (m : Int) ≤ 1000000 := by omega
    by_cases hlt : i < n
    · have hii : (i : Int) < n := by omega
      obtain ⟨b, off, r, rfl, hbb, hr, hc, hR⟩ := H.out.cellAt (i := i) (by have := HN.out; omega)
      have HCS := Lib.hid (catL_succ hr)
      have hm2 : m + r.l.length ≤ N := by have h1 := catL_le rs (show i + 1 ≤ n from hlt); rw [HCS.out, List.length_append, HM.out, HNN.out] at h1; exact h1
      obtain ⟨RA, rc, rl⟩ := r
      dsimp only at hc hm2 HCS
      obtain ⟨rn, hrn⟩ : ∃ rn, rl.length = rn := ⟨_, rfl⟩
      rw [hrn] at hc hm2
      have HRN := Lib.hid hrn
      have hm2i : (m : Int) + (rn : Int) ≤ 1000000 := by omega
      clear hr hR hrn
      go_wp2_with fail
      go_round
      case rel => exact ⟨i + 1, m + rn, by omega, by go_num, by go_num, by unfold Hid; rw [HCS.out, List.length_append, HM.out, HRN.out]⟩
      case measure => simp [intOf]; omega
    · obtain rfl : i = n := by omega
      obtain rfl : m = N := by rw [← HM.out, HNN.out]
      have hii : (i : Int) ≤ i := Int.le_refl _
      go_wp2_with (go_at_call 158; refine (HGR.out _).mono ?_; rintro e w1 ⟨⟨A1, c1, rfl, ho1⟩, hb1⟩; have HO1 := Lib.hid ho1; clear ho1)
      go_loopw [6, 27] (fun vo vi wr => ∃ (j q : Nat) (A' : Option Addr) (c' : Nat), j ≤ i ∧ vi = .int .i64 (j : Int) ∧ vo = .slice A' q c' ∧ Hid ((catL rs j).length = q) ∧ Hid (OB w.heap.size wr A' c' (catL rs j)) ∧ Below w.heap.size w wr) (fun _ vi _ => i - (intOf vi).toNat)
      case atStart => exact ⟨0, 0, A1, c1, by omega, rfl, rfl, rfl, HO1.out, hb1⟩
      case round =>
        obtain ⟨j, q, A', c', hj, rfl, rfl, HQ, HO, hbel⟩ := hrel
        by_cases hlt2 : j < i
        · have hji : (j : Int) < i := by omega
          obtain ⟨b, off, r, rfl, hbb, hr, hc, hR⟩ := (H.out.on hbel).cellAt (i := j) (by have := HN.out; omega)
          have HCS := Lib.hid (catL_succ hr)
          have hm2 : q + r.l.length ≤ m := by have h1 := catL_le rs (show j + 1 ≤ i from hlt2); rw [HCS.out, List.length_append, HQ.out, HNN.out] at h1; exact h1
          obtain ⟨RA, rc, rl⟩ := r
          dsimp only at hc hm2 HCS hR
          obtain ⟨rn, hrn⟩ : ∃ rn, rl.length = rn := ⟨_, rfl⟩
          rw [hrn] at hc hm2
          have HRN := Lib.hid hrn
          have HR := Lib.hid hR
          clear hr hR hrn
          go_wp2_with (at_builtin; refine wpList_append_bytes _ rfl (.tmp 31) (.tmp 32) rfl w.heap.size A' q c' (catL rs j) HQ.out rfl HO.out RA rn rc rl HRN.out rfl (HR.out.src HRN.out) (by omega) hbel.size ?_; intro A5 c5 w5 hon5 hbl5 hg5; have HON5 := Lib.hid hon5; have b5 := hbel.trans hbl5; clear hon5 hg5 hbl5)
          go_roundw
          case rel => exact ⟨j + 1, q + rn, A5, c5, by omega, by go_num, rfl, by unfold Hid; rw [HCS.out, List.length_append, HQ.out, HRN.out], by rw [HCS.out]; exact HON5.out, b5⟩
          case measure => simp [intOf]; omega
        · obtain rfl : j = i := by omega
          obtain rfl : q = m := by rw [← HQ.out, HNN.out]
          go_wp2_with fail
          go_ret
          exact ⟨⟨A', c', rfl, HO.out⟩, hbel⟩
end Go.Proofs.YtinpiodfpnbllaaGreatDoor

/- Words of 64 bits: how the walk spells their operations; rotations, as the program and the reference make them. -/
namespace Go.Proofs.YtinpiodfpnbllaaGreatDoor
open Go.RowKit
set_option linter.unusedVariables false

theorem wrap_u64_nat (n : Nat) : IntKind.u64.wrap (n : Int) = ((n % 18446744073709551616 : Nat) : Int) := by
  rw [IntKind.wrap_u64]; omega
theorem u64_bd (x : UInt64) : (x.toNat : Int) ≤ 18446744073709551615 := by have := x.toNat_lt; omega
theorem u64_wrap (x : UInt64) : IntKind.u64.wrap (x.toNat : Int) = (x.toNat : Int) := by
  rw [wrap_u64_nat]; have := x.toNat_lt; omega
theorem u64_add (a b : UInt64) : IntKind.u64.wrap ((a.toNat : Int) + (b.toNat : Int)) = ((a + b).toNat : Int) := by
  rw [show (a.toNat : Int) + b.toNat = ((a.toNat + b.toNat : Nat) : Int) from by omega, wrap_u64_nat, UInt64.toNat_add]
theorem u64_addm (a b : UInt64) : ((a.toNat : Int) + (b.toNat : Int)) % 18446744073709551616 = ((a + b).toNat : Int) := by
  rw [UInt64.toNat_add]; omega
theorem u64_sub (a b : UInt64) : IntKind.u64.wrap ((a.toNat : Int) - (b.toNat : Int)) = ((a - b).toNat : Int) := by
  have h1 := a.toNat_lt
  have h2 := b.toNat_lt
  rw [IntKind.wrap_u64, UInt64.toNat_sub]
  omega
theorem u64_mul256 (a : UInt64) : IntKind.u64.wrap (256 * (a.toNat : Int)) = ((256 * a).toNat : Int) := by
  rw [show 256 * (a.toNat : Int) = ((256 * a.toNat : Nat) : Int) from by omega, wrap_u64_nat, UInt64.toNat_mul]
  rfl
theorem u64_or (a b : UInt64) : bits .or .u64 (a.toNat : Int) (b.toNat : Int) = ((a ||| b).toNat : Int) := by
  rw [u64_or_nat _ _ a.toNat_lt b.toNat_lt, UInt64.toNat_or]
theorem u64_xor (a b : UInt64) : bits .xor .u64 (a.toNat : Int) (b.toNat : Int) = ((a ^^^ b).toNat : Int) := by
  rw [u64_xor_nat _ _ a.toNat_lt b.toNat_lt, UInt64.toNat_xor]
theorem u64_shl (x : UInt64) (k : Nat) (hk : k < 64) : IntKind.u64.wrap ((x.toNat : Int) * (2 ^ k : Nat)) = ((x <<< UInt64.ofNat k).toNat : Int) := by
  rw [show (x.toNat : Int) * (2 ^ k : Nat) = ((x.toNat * 2 ^ k : Nat) : Int) from (Int.natCast_mul _ _).symm, wrap_u64_nat, UInt64.toNat_shiftLeft, Nat.shiftLeft_eq]
  simp [UInt64.toNat_ofNat', Nat.mod_eq_of_lt (show k < 18446744073709551616 by omega), Nat.mod_eq_of_lt hk]
theorem u64_shr (x : UInt64) (k : Nat) (hk : k < 64) : (x.toNat : Int) / (2 ^ k : Nat) = ((x >>> UInt64.ofNat k).toNat : Int) := by
  rw [toNat_shr x k hk]; exact (Int.natCast_ediv _ _).symm
theorem u8_wrap64 (x : UInt64) : IntKind.u8.wrap (x.toNat : Int) = ((x.toUInt8).toNat : Int) := by
  rw [IntKind.wrap_u8, UInt64.toNat_toUInt8]; omega
theorem u64_of_u8 (c : UInt8) : IntKind.u64.wrap (c.toNat : Int) = ((c.toUInt64).toNat : Int) := by
  rw [wrap_u64_nat, UInt8.toNat_toUInt64]; have := c.toNat_lt; omega
theorem u64_shl8 (x : UInt64) : IntKind.u64.wrap ((x.toNat : Int) * 256) = ((x <<< 8).toNat : Int) := u64_shl x 8 (by omega)
theorem u64_shl56 (x : UInt64) : IntKind.u64.wrap ((x.toNat : Int) * 72057594037927936) = ((x <<< 56).toNat : Int) := u64_shl x 56 (by omega)
theorem u64_shl3 (x : UInt64) : IntKind.u64.wrap ((x.toNat : Int) * 8) = ((x <<< 3).toNat : Int) := u64_shl x 3 (by omega)
theorem u64_shl61 (x : UInt64) : IntKind.u64.wrap ((x.toNat : Int) * 2305843009213693952) = ((x <<< 61).toNat : Int) := u64_shl x 61 (by omega)
theorem u64_shr8 (x : UInt64) : (x.toNat : Int) / (256 : Int) = ((x >>> 8).toNat : Int) := u64_shr x 8 (by omega)
theorem u64_shr56 (x : UInt64) : (x.toNat : Int) / (72057594037927936 : Int) = ((x >>> 56).toNat : Int) := u64_shr x 56 (by omega)
theorem u64_shr3 (x : UInt64) : (x.toNat : Int) / (8 : Int) = ((x >>> 3).toNat : Int) := u64_shr x 3 (by omega)
theorem u64_shr61 (x : UInt64) : (x.toNat : Int) / (2305843009213693952 : Int) = ((x >>> 61).toNat : Int) := u64_shr x 61 (by omega)

theorem ret_u64 {a b : Int} (h : a = b) : Ending.returned (.int .u64 a) = .returned (.int .u64 b) := by rw [h]

/-- A rotation by k bits to the left, as both make it. -/
theorem rot_r8 (x : UInt64) : bits .or .u64 (IntKind.u64.wrap ((x.toNat : Int) * 72057594037927936)) ((x.toNat : Int) / 256) = ((rotr8 x).toNat : Int) := by
  rw [u64_shl56, u64_shr8, u64_or, rotr8, UInt64.or_comm]
theorem rot_l3 (x : UInt64) : bits .or .u64 (IntKind.u64.wrap ((x.toNat : Int) * 8)) ((x.toNat : Int) / 2305843009213693952) = ((rotl3 x).toNat : Int) := by
  rw [u64_shl3, u64_shr61, u64_or, rotl3]
theorem rot_l8 (x : UInt64) : bits .or .u64 (IntKind.u64.wrap ((x.toNat : Int) * 256)) ((x.toNat : Int) / 72057594037927936) = ((rotl8 x).toNat : Int) := by
  rw [u64_shl8, u64_shr56, u64_or, rotl8]
theorem rot_r3 (x : UInt64) : bits .or .u64 (IntKind.u64.wrap ((x.toNat : Int) * 2305843009213693952)) ((x.toNat : Int) / 8) = ((rotr3 x).toNat : Int) := by
  rw [u64_shl61, u64_shr3, u64_or, rotr3, UInt64.or_comm]
theorem rot_r8' (x : UInt64) : bits .or .u64 ((x.toNat : Int) / 256) (IntKind.u64.wrap ((x.toNat : Int) * 72057594037927936)) = ((rotr8 x).toNat : Int) := by
  rw [u64_shl56, u64_shr8, u64_or, rotr8]
theorem rot_l3' (x : UInt64) : bits .or .u64 ((x.toNat : Int) / 2305843009213693952) (IntKind.u64.wrap ((x.toNat : Int) * 8)) = ((rotl3 x).toNat : Int) := by
  rw [u64_shl3, u64_shr61, u64_or, rotl3, UInt64.or_comm]
theorem rot_l8' (x : UInt64) : bits .or .u64 ((x.toNat : Int) / 72057594037927936) (IntKind.u64.wrap ((x.toNat : Int) * 256)) = ((rotl8 x).toNat : Int) := by
  rw [u64_shl8, u64_shr56, u64_or, rotl8, UInt64.or_comm]
theorem rot_r3' (x : UInt64) : bits .or .u64 ((x.toNat : Int) / 8) (IntKind.u64.wrap ((x.toNat : Int) * 2305843009213693952)) = ((rotr3 x).toNat : Int) := by
  rw [u64_shl61, u64_shr3, u64_or, rotr3]

set_option maxHeartbeats 400000 in
theorem RotateLeft64_r8 (x : UInt64) (w : World) : Calls Tryz.prog 155 #[.int .u64 (x.toNat : Int), .int .i64 (-8)] w fun e w' => e = .returned (.int .u64 ((rotr8 x).toNat : Int)) ∧ w = w' := by
  have hx := u64_bd x
  have hk : bits BinOp.and IntKind.u64 (IntKind.u64.wrap (-8)) 63 = 56 := by kernel_rfl
  go_enter Tryz.func155, Tryz.ntmps155
  go_wp2_with fail
  go_ret
  exact ⟨ret_u64 (rot_r8 x), rfl⟩
set_option maxHeartbeats 400000 in
theorem RotateLeft64_l3 (x : UInt64) (w : World) : Calls Tryz.prog 155 #[.int .u64 (x.toNat : Int), .int .i64 3] w fun e w' => e = .returned (.int .u64 ((rotl3 x).toNat : Int)) ∧ w = w' := by
  have hx := u64_bd x
  have hk : bits BinOp.and IntKind.u64 3 63 = 3 := by kernel_rfl
  go_enter Tryz.func155, Tryz.ntmps155
  go_wp2_with fail
  go_ret
  exact ⟨ret_u64 (rot_l3 x), rfl⟩
set_option maxHeartbeats 400000 in
theorem RotateLeft64_l8 (x : UInt64) (w : World) : Calls Tryz.prog 155 #[.int .u64 (x.toNat : Int), .int .i64 8] w fun e w' => e = .returned (.int .u64 ((rotl8 x).toNat : Int)) ∧ w = w' := by
  have hx := u64_bd x
  have hk : bits BinOp.and IntKind.u64 8 63 = 8 := by kernel_rfl
  go_enter Tryz.func155, Tryz.ntmps155
  go_wp2_with fail
  go_ret
  exact ⟨ret_u64 (rot_l8 x), rfl⟩
set_option maxHeartbeats 400000 in
theorem RotateLeft64_r3 (x : UInt64) (w : World) : Calls Tryz.prog 155 #[.int .u64 (x.toNat : Int), .int .i64 (-3)] w fun e w' => e = .returned (.int .u64 ((rotr3 x).toNat : Int)) ∧ w = w' := by
  have hx := u64_bd x
  have hk : bits BinOp.and IntKind.u64 (IntKind.u64.wrap (-3)) 63 = 61 := by kernel_rfl
  go_enter Tryz.func155, Tryz.ntmps155
  go_wp2_with fail
  go_ret
  exact ⟨ret_u64 (rot_r3 x), rfl⟩

set_option maxHeartbeats 400000 in
theorem refRotr_8 (x : UInt64) (w : World) : Calls Tryz.prog 162 #[.int .u64 (x.toNat : Int), .int .i64 8] w fun e w' => e = .returned (.int .u64 ((rotr8 x).toNat : Int)) ∧ ∃ n, w' = w.drewN n := by
  have hx := u64_bd x
  go_enter Tryz.func162, Tryz.ntmps162
  go_wp2_with fail
  go_quiet (fail)
  go_wp2_with fail
  go_ret
  exact ⟨ret_u64 (rot_r8' x), _, rfl⟩
set_option maxHeartbeats 400000 in
theorem refRotr_61 (x : UInt64) (w : World) : Calls Tryz.prog 162 #[.int .u64 (x.toNat : Int), .int .i64 61] w fun e w' => e = .returned (.int .u64 ((rotl3 x).toNat : Int)) ∧ ∃ n, w' = w.drewN n := by
  have hx := u64_bd x
  go_enter Tryz.func162, Tryz.ntmps162
  go_wp2_with fail
  go_quiet (fail)
  go_wp2_with fail
  go_ret
  exact ⟨ret_u64 (rot_l3' x), _, rfl⟩
set_option maxHeartbeats 400000 in
theorem refRotl_3 (x : UInt64) (w : World) : Calls Tryz.prog 163 #[.int .u64 (x.toNat : Int), .int .i64 3] w fun e w' => e = .returned (.int .u64 ((rotl3 x).toNat : Int)) ∧ ∃ n, w' = w.drewN n := by
  go_enter Tryz.func163, Tryz.ntmps163
  go_wp2_with (go_at_call 162; refine (refRotr_61 x _).mono ?_; rintro e w1 ⟨rfl, n1, rfl⟩)
  go_ret
  exact ⟨rfl, _, rfl⟩
end Go.Proofs.YtinpiodfpnbllaaGreatDoor

/- The block cipher of the program: words, blocks, rounds. -/
namespace Go.Proofs.YtinpiodfpnbllaaGreatDoor
open Go.RowKit
set_option linter.unusedVariables false

theorem wd_take_succ {l : List UInt8} {k : Nat} (h : k < l.length) : wd (l.take (k + 1)) = (wd (l.take k) <<< 8 ||| (l.getD k 0).toUInt64) := by
  rw [List.take_succ_eq_append_getElem h, wd_snoc, shl8_or]
  simp [List.getD, List.getElem?_eq_getElem h]
/-- Two words as a value. -/
def pairC (p : W2) : Array Value := #[.int .u64 (p.1.toNat : Int), .int .u64 (p.2.toNat : Int)]

theorem shl8_or_u8 (x : UInt64) (c : UInt8) : bits .or .u64 (IntKind.u64.wrap ((x.toNat : Int) * 256)) (c.toNat : Int) = ((x <<< 8 ||| c.toUInt64).toNat : Int) := by
  rw [u64_shl8, show (c.toNat : Int) = (c.toUInt64.toNat : Int) from by rw [UInt8.toNat_toUInt64], u64_or]
theorem pair_cong {a b c d : Int} (h1 : a = b) (h2 : c = d) : (#[.int .u64 a, .int .u64 c] : Array Value) = #[.int .u64 b, .int .u64 d] := by rw [h1, h2]
set_option maxHeartbeats 1000000 in
theorem wordsOf_any (b : List UInt8) (w : World) (hb : b.length = 16) : Calls Tryz.prog 106 #[.agg (cellsB b).toArray] w fun e w' => e = .returned (.agg #[.int .u64 ((wds b).1.toNat : Int), .int .u64 ((wds b).2.toNat : Int)]) ∧ Below w.heap.size w w' := by
  have HB := Lib.hid hb
  clear hb
  go_enter Tryz.func106, Tryz.ntmps106
  go_wp2_with fail
  go_loopw [5] (fun vk wr => ∃ (k : Nat) (x y : UInt64), k ≤ 8 ∧ vk = .int .i64 k ∧ Hid (x = wd (b.take k) ∧ y = wd ((b.drop 8).take k)) ∧ Blk wr w.heap.size 24 (cellsB b).toArray ∧
      Blk wr (w.heap.size + 1) 167 #[.int .u64 0, .int .u64 0] ∧ Blk wr (w.heap.size + 1 + 1) 167 #[.int .u64 (x.toNat : Int), .int .u64 (y.toNat : Int)] ∧ Below w.heap.size w wr) (fun vk _ => 8 - (intOf vk).toNat)
  case atStart => exact ⟨0, 0, 0, by omega, rfl, ⟨rfl, rfl⟩, blk_a0 _ _ _ _ _, blk_a1 _ _ _ _ _, blk_a2 _ _ _ _ _, alloc3_bel _ _ _ _⟩
  case round =>
    obtain ⟨k, x, y, hk, rfl, HX, hB1, hB2, hB3, hbel⟩ := hrel
    by_cases hk8 : k < 8
    · have c0 := hB3.cell 0
      have c1 := hB3.cell 1
      have f0 := hB3.frozen 0
      have f1 := hB3.frozen 1
      simp only [List.getElem?_toArray, List.getElem?_cons_zero, List.getElem?_cons_succ] at c0 c1
      have d0 := (hB1.cell k).trans (bytes_get b k (by have := HB.out; omega))
      have d1 := (hB1.cell (8 + k)).trans (bytes_get b (8 + k) (by have := HB.out; omega))
      generalize hv0 : b.getD k 0 = v0 at *
      generalize hv1 : b.getD (8 + k) 0 = v1 at *
      have HV := Lib.hid (And.intro hv0 hv1)
      clear hv0 hv1
      have hbx := u64_bd x
      have hby := u64_bd y
      have hki : (k : Int) < 8 := by omega
      have hv0' : (v0.toNat : Int) ≤ 255 := by have := v0.toNat_lt; omega
      have hv1' : (v1.toNat : Int) ≤ 255 := by have := v1.toNat_lt; omega
      go_wp2_with fail
      go_region
      have e1 := shl8_or_u8 x v0
      have e2 := shl8_or_u8 y v1
      rw [e1, e2]
      have hB4 := Lib.hid ((hB3.set_ 0 (.int .u64 ((x <<< 8 ||| v0.toUInt64).toNat : Int))).set_ 1 (.int .u64 ((y <<< 8 ||| v1.toUInt64).toNat : Int)))
      clear e1 e2 c0 c1 f0 f1 d0 d1
      go_wp2_with fail
      go_roundw
      case rel =>
        refine ⟨k + 1, x <<< 8 ||| v0.toUInt64, y <<< 8 ||| v1.toUInt64, by omega, by go_num, ?_, (((hB1.far (p := ⟨w.heap.size + 1 + 1, 0, none⟩) (by simp; omega) _).far (p := ⟨w.heap.size + 1 + 1, 1, none⟩) (by simp; omega) _)).drew,
          ((hB2.far (p := ⟨w.heap.size + 1 + 1, 0, none⟩) (by simp) _).far (p := ⟨w.heap.size + 1 + 1, 1, none⟩) (by simp) _).drew, Blk.drew (by simpa using hB4.out), ((hbel.setCell (p := ⟨w.heap.size + 1 + 1, 0, none⟩) (by simp; omega) _).setCell (p := ⟨w.heap.size + 1 + 1, 1, none⟩) (by simp; omega) _).drew⟩
        obtain ⟨h1, h2⟩ := HX.out
        obtain ⟨g1, g2⟩ := HV.out
        refine ⟨?_, ?_⟩
        · rw [wd_take_succ (by have := HB.out; omega), h1, g1]
        · rw [wd_take_succ (by have := HB.out; simp; omega), h2, ← g2]
          congr 2
          simp [List.getD, List.getElem?_drop]
      case measure => simp [intOf]; omega
    · obtain rfl : k = 8 := by omega
      have c0 := hB3.cell 0
      have c1 := hB3.cell 1
      have r0 := hB2.cell 0
      have r1 := hB2.cell 1
      have f0 := hB2.frozen 0
      have f1 := hB2.frozen 1
      simp only [List.getElem?_toArray, List.getElem?_cons_zero, List.getElem?_cons_succ] at c0 c1 r0 r1
      have HE : Hid (x = (wds b).1 ∧ y = (wds b).2) := by
        obtain ⟨h1, h2⟩ := HX.out
        refine ⟨h1, ?_⟩
        rw [h2, List.take_of_length_le (by have := HB.out; simp; omega)]
        rfl
      go_wp2_with fail
      have hB5 : Blk ((wr.setCell ⟨w.heap.size + 1, 0, none⟩ (.int .u64 (x.toNat : Int))).setCell ⟨w.heap.size + 1, 1, none⟩ (.int .u64 (y.toNat : Int))) (w.heap.size + 1) 167 #[.int .u64 (x.toNat : Int), .int .u64 (y.toNat : Int)] := by
        simpa using (hB2.set_ 0 (.int .u64 (x.toNat : Int))).set_ 1 (.int .u64 (y.toNat : Int))
      refine bodyPost_ret (results_cell_row rfl _ _ (w.heap.size + 1) _ _ (0, 0) _ rfl hB5 Tryz.underlying167 rfl (by kernel_rfl)) rfl ⟨?_, ?_⟩
      · rw [HE.out.1, HE.out.2]
      · exact (hbel.setCell (p := ⟨w.heap.size + 1, 0, none⟩) (by simp) _).setCell (p := ⟨w.heap.size + 1, 1, none⟩) (by simp) _

set_option maxHeartbeats 1000000 in
theorem round_any (p : W2) (k : UInt64) (w : World) : Calls Tryz.prog 112 #[.agg #[.int .u64 (p.1.toNat : Int), .int .u64 (p.2.toNat : Int)], .int .u64 (k.toNat : Int)] w fun e w' => e = .returned (.agg #[.int .u64 ((rnd k p).1.toNat : Int), .int .u64 ((rnd k p).2.toNat : Int)]) ∧ Below w.heap.size w w' := by
  obtain ⟨x, y⟩ := p
  dsimp only
  have hx := u64_bd x
  have hy := u64_bd y
  have hk := u64_bd k
  have HE : Hid (((rotr8 x + y) ^^^ k) = (rnd k (x, y)).1 ∧ (rotl3 y ^^^ ((rotr8 x + y) ^^^ k)) = (rnd k (x, y)).2) := ⟨rfl, rfl⟩
  go_enter Tryz.func112, Tryz.ntmps112
  go_wp2_with fail
  go_quiet ((go_at_call 155; exact quiet_left' (RotateLeft64_r8 x _)))
  go_wp2_with (go_at_call 155; refine (RotateLeft64_l3 y _).mono ?_; rintro e w1 ⟨rfl, rfl⟩)
  simp only [u64_add, u64_xor]
  rw [HE.out.2, HE.out.1]
  exact bodyPost_ret (v := .agg #[.int .u64 ((rnd k (x, y)).1.toNat : Int), .int .u64 ((rnd k (x, y)).2.toNat : Int)]) (by simp [results, Tryz.results112, go_sem]) rfl
    ⟨rfl, ((below_drewN ((alloc_bel _ _).alloc (by simp) _) _).setCell (p := ⟨w.heap.size + 1, 0, none⟩) (by simp) _).setCell (p := ⟨w.heap.size + 1, 1, none⟩) (by simp) _⟩

/-- The block after k rounds. -/
def stB (p : W2) (k : Nat) : List UInt8 := (List.range 16).map fun j => if j < 8 then (if j < k then (by8 p.1).getD j 0 else 0) else (if j - 8 < k then (by8 p.2).getD (j - 8) 0 else 0)
theorem stB_step (p : W2) (k : Nat) (hk : k < 8) : ((stB p k).set k ((by8 p.1).getD k 0)).set (8 + k) ((by8 p.2).getD k 0) = stB p (k + 1) := by
  match k, hk with
  | 0, _ => rfl
  | 1, _ => rfl
  | 2, _ => rfl
  | 3, _ => rfl
  | 4, _ => rfl
  | 5, _ => rfl
  | 6, _ => rfl
  | 7, _ => rfl
theorem stB_fin (p : W2) : stB p 8 = blk p := rfl
theorem stB_length (p : W2) (k : Nat) : (stB p k).length = 16 := by simp [stB]
theorem by8_getD (x : UInt64) (k : Nat) (hk : k < 8) : (by8 x).getD k 0 = (x >>> UInt64.ofNat (56 - 8 * k)).toUInt8 := by
  match k, hk with
  | 0, _ => rfl
  | 1, _ => rfl
  | 2, _ => rfl
  | 3, _ => rfl
  | 4, _ => rfl
  | 5, _ => rfl
  | 6, _ => rfl
  | 7, _ =>
    show x.toUInt8 = (x >>> 0).toUInt8
    simp
theorem byte_at (x : UInt64) (m : Nat) (hm : m < 64) : (x.toNat : Int) / 2 ^ m % 256 = (((x >>> UInt64.ofNat m).toUInt8).toNat : Int) := by
  rw [← u8_wrap64, ← u64_shr x m hm, IntKind.wrap_u8]
  congr 2
theorem bytes_set (l : List UInt8) (i : Nat) (x : UInt8) : (cellsB l).toArray.setIfInBounds i (.int .u8 (x.toNat : Int)) = (cellsB (l.set i x)).toArray := by
  rw [cellsB_set]; simp
theorem zero16 : (#[.int .u8 0, .int .u8 0, .int .u8 0, .int .u8 0, .int .u8 0, .int .u8 0, .int .u8 0, .int .u8 0, .int .u8 0, .int .u8 0, .int .u8 0, .int .u8 0, .int .u8 0, .int .u8 0, .int .u8 0, .int .u8 0] : Array Value) = (cellsB zeroK).toArray := rfl
theorem under_key : Tryz.prog.underlying 24 = some (.array 16 5) := Tryz.underlying24
theorem info_key : (Tryz.prog.info? 24).map (·.size) = some 16 := by kernel_rfl
theorem cellsB_sizes (a b : List UInt8) (ha : a.length = 16) (hb : b.length = 16) : (cellsB a).toArray.size = (cellsB b).toArray.size := by simp [cellsB, ha, hb]
theorem cellsB_all (l : List UInt8) : (cellsB l).toArray.all (·.oneCell') = true := by
  rw [Array.all_eq_true_iff_forall_mem]
  intro x hx
  exact cellsB_one l x (by simpa using hx)
theorem cellsB_size (l : List UInt8) (h : l.length = 16) : (Tryz.prog.info? 24).map (·.size) = some (cellsB l).toArray.size := by rw [info_key]; simp [cellsB, h]

set_option maxHeartbeats 1000000 in
theorem block_any (p : W2) (w : World) : Calls Tryz.prog 108 #[.agg #[.int .u64 (p.1.toNat : Int), .int .u64 (p.2.toNat : Int)]] w fun e w' => e = .returned (.agg (cellsB (blk p)).toArray) ∧ Below w.heap.size w w' := by
  have HZ := Lib.hid zero16
  go_enter Tryz.func108, Tryz.ntmps108
  go_wp2_with fail
  rw [HZ.out]
  go_loopw [5] (fun vk wr => ∃ k : Nat, k ≤ 8 ∧ vk = .int .i64 k ∧ Blk wr w.heap.size 167 #[.int .u64 (p.1.toNat : Int), .int .u64 (p.2.toNat : Int)] ∧
      Blk wr (w.heap.size + 1) 24 (cellsB zeroK).toArray ∧ Blk wr (w.heap.size + 1 + 1) 24 (cellsB (stB p k)).toArray ∧ Below w.heap.size w wr) (fun vk _ => 8 - (intOf vk).toNat)
  case atStart => exact ⟨0, by omega, rfl, blk_a0 _ _ _ _ _, blk_a1 _ _ _ _ _, blk_a2 _ _ _ _ _, alloc3_bel _ _ _ _⟩
  case round =>
    obtain ⟨k, hk, rfl, hB1, hB2, hB3, hbel⟩ := hrel
    by_cases hk8 : k < 8
    · obtain ⟨m, hm⟩ : ∃ m, 56 - 8 * k = m := ⟨_, rfl⟩
      have hmi : (56 : Int) - 8 * k = m := by omega
      have hm0 : (m : Int) ≤ 56 := by omega
      have c0 := hB1.cell 0
      have c1 := hB1.cell 1
      simp only [List.getElem?_toArray, List.getElem?_cons_zero, List.getElem?_cons_succ] at c0 c1
      have d0 := (hB3.cell k).trans (bytes_get _ k (by rw [stB_length]; omega))
      have d1 := (hB3.cell (8 + k)).trans (bytes_get _ (8 + k) (by rw [stB_length]; omega))
      have f0 := hB3.frozen k
      have f1 := hB3.frozen (8 + k)
      have hx := u64_bd p.1
      have hy := u64_bd p.2
      have hki : (k : Int) < 8 := by omega
      have HS := Lib.hid (stB_step p k hk8)
      have HY1 : Hid ((p.1.toNat : Int) / 2 ^ m % 256 = (((by8 p.1).getD k 0).toNat : Int)) := by unfold Hid; rw [byte_at _ _ (by omega), by8_getD _ _ hk8, hm]
      have HY2 : Hid ((p.2.toNat : Int) / 2 ^ m % 256 = (((by8 p.2).getD k 0).toNat : Int)) := by unfold Hid; rw [byte_at _ _ (by omega), by8_getD _ _ hk8, hm]
      clear hm
      go_wp2_with fail
      go_region
      rw [HY1.out, HY2.out]
      have hB4 := (hB3.set_ k (.int .u8 (((by8 p.1).getD k 0).toNat : Int))).set_ (8 + k) (.int .u8 (((by8 p.2).getD k 0).toNat : Int))
      rw [bytes_set, bytes_set, HS.out] at hB4
      have HB4 := Lib.hid hB4
      clear hB4 c0 c1 d0 d1 f0 f1
      go_wp2_with fail
      go_roundw
      case rel => exact ⟨k + 1, by omega, by go_num, ((hB1.far (p := ⟨w.heap.size + 1 + 1, k, none⟩) (by simp; omega) _).far (p := ⟨w.heap.size + 1 + 1, 8 + k, none⟩) (by simp; omega) _).drew,
          ((hB2.far (p := ⟨w.heap.size + 1 + 1, k, none⟩) (by simp) _).far (p := ⟨w.heap.size + 1 + 1, 8 + k, none⟩) (by simp) _).drew, HB4.out.drew, ((hbel.setCell (p := ⟨w.heap.size + 1 + 1, k, none⟩) (by simp; omega) _).setCell (p := ⟨w.heap.size + 1 + 1, 8 + k, none⟩) (by simp; omega) _).drew⟩
      case measure => simp [intOf]; omega
    · obtain rfl : k = 8 := by omega
      rw [stB_fin] at hB3
      have hL : (blk p).length = 16 := rfl
      go_wp2_with (first
        | (refine wpList_load_row rfl 24 (.tmp 3) rfl (w.heap.size + 1 + 1) rfl 24 (cellsB (blk p)).toArray (0, 0) _ hB3 under_key rfl (cellsB_size _ hL) ?_)
        | (refine wpList_store_row rfl 24 (.tmp 2) (.tmp 28) rfl (w.heap.size + 1) (cellsB (blk p)).toArray rfl rfl 24 (cellsB zeroK).toArray hB2 (cellsB_size _ hL) (cellsB_sizes _ _ zeroK_length hL) (cellsB_all _) ?_))
      have hB5 := hB2.setRow (cellsB (blk p)).toArray
      refine bodyPost_ret (results_cell_row rfl _ _ (w.heap.size + 1) _ _ (0, 0) _ rfl hB5 under_key rfl (cellsB_size _ hL)) rfl ⟨rfl, below_setRow hbel (by omega) _⟩
end Go.Proofs.YtinpiodfpnbllaaGreatDoor

/- A range over a function whose iterator keeps a variable of its own in memory, the body being left in no way but its end: the law, for whatever invariant of the caller's that speaks of what lay ahead of the loop. -/
namespace Go.Proofs.YtinpiodfpnbllaaGreatDoor
open Go.RowKit Go.Shelf
set_option linter.unusedVariables false

/-- What holds through new blocks, and through writes to blocks from B on. -/
def HoldsFrom {β : Type} (B : Nat) (J : β → World → Prop) : Prop := ∀ s X Y row, J s X → X.grownBy Y row → (∀ r, row = some r → B ≤ r) → J s Y
theorem HoldsFrom.put {β : Type} {B : Nat} {J : β → World → Prop} (h : HoldsFrom B J) {s : β} {W : World} (hs : J s W) {l : Nat} (hl : B ≤ l) (o : Obj) : J s (W.putObj l o) :=
  h s W _ (some l) hs (grownBy_putObj' W l o) fun r e => by cases e; exact hl
theorem HoldsFrom.more {β : Type} {B : Nat} {J : β → World → Prop} (h : HoldsFrom B J) {s : β} {W : World} (hs : J s W) (o : Obj) : J s (W.alloc o) := h s W _ none hs (World.grownBy_alloc W o none) fun r e => by cases e
/-- What an iterator does: the elements of xs come, one by one. -/
def Brings {α : Type} (F : Fence) (n : Nat) (P : Program) (g : Nat) (lb : Array Value) (encs : α → Array Value) (Kp : World → World → Prop) (xs : List α) (w : World) : Prop :=
  ∀ (l : Nat) (J : List α → World → Prop) (W : World), Below w.heap.size w W → HoldsFrom W.heap.size J →
    (∀ pre x W1, J pre W1 → (∃ rest, xs = pre ++ x :: rest) → YieldAt F (n - 1) P l (encs x) W1 fun e W' => e = .returned (.bool true) ∧ J (pre ++ [x]) W' ∧ Kp W1 W') →
    J [] W → CallsIn F n P g (#[.func (.yield l) #[] #[]] ++ lb) W fun e W' => (∃ v, e = .returned v) ∧ J xs W'

def AtEnd (R : World → Prop) : Exit → Act → World → Prop
  | .normal, _, W => R W
  | _, _, _ => False

theorem wpIn_range_box {P : Program} {F : Fence} {n : Nat} {α : Type} {g : Operand} {ps : Array Tmp} {assign body : Code} {Q : Exit → Act → World → Prop} {a : Act} {w : World}
    (hro : F.round = none) (h1 : 1 ≤ n) {gf : Nat} {lb : Array Value} (hg : a.eval g = .func (.func gf) #[] lb) (hFg : F.fn gf) (eg : ∀ args w, (callFunc gf args).run P w = .ok (.enter gf args) w)
    {encs : α → Array Value} {Kp : World → World → Prop} {xs : List α} {w0 : World} (hseq : Brings F (n - 1) P gf lb encs Kp xs w0)
    (hKt : ∀ {X Y Z : World}, Kp X Y → Kp Y Z → Kp X Z) (hKb : ∀ (W : World) (l : Nat) (o o' : Obj), w.heap.size ≤ l → W.heap[l]? = some o → o.isCells = false → Kp W (W.putObj l o')) (hb0 : Below w0.heap.size w0 w) (hps : ∀ x, (encs x).size = ps.size)
    (I : List α → World → Prop) (hI : HoldsFrom w.heap.size I) (h0 : I [] w) (a₁ : α → Act)
    (hassign : ∀ (l : Nat) (x : α) (W : World) (K : Act → World → Prop), K (a₁ x) W →
      assign.wpIn (F.inRound l) (n - 1 - 1) P (Exit.then K (fun _ _ _ => False)) { tmps := (ps.zip (encs x)).foldl (fun t (p, v) => t.setIfInBounds p v) a.tmps, defers := [] } W)
    (hbody : ∀ (l : Nat) (pre : List α) (x : α) (W : World), I pre W → (∃ rest, xs = pre ++ x :: rest) → body.wpIn (F.inRound l) (n - 1 - 1) P (AtEnd fun W' => KeepsFrom w.heap.size W W' ∧ Kp W W' ∧ I (pre ++ [x]) W') (a₁ x) W)
    (hdone : ∀ (D : Nat) (W : World), w.heap.size ≤ D → I xs W → W.heap[D]? = some (.deferred (some [])) → Q .normal { a with defers := { target := .collected D, args := #[] } :: a.defers } W) :
    (Code.rangeFunc g ps assign body).wpIn F n P Q a w := by
  refine wpIn_rangeFunc fun fn hfn => ?_
  rw [hro]
  let rec_ : LoopState → Option Code → Loop := fun st pe => { state := st, pending := pe, fn := fn, tmps := a.tmps, params := ps, assign := assign, body := body, defers := w.heap.size }
  have s1 : ((w.alloc (.deferred (some []))).alloc (.loop (rec_ .ready none))).heap.size = w.heap.size + 1 + 1 := by simp
  generalize hW1 : (w.alloc (.deferred (some []))).alloc (.loop (rec_ .ready none)) = W1 at s1
  have hL1 : W1.heap[w.heap.size + 1]? = some (.loop (rec_ .ready none)) := by
    rw [← hW1]; have := World.alloc_heap_new (w.alloc (.deferred (some []))) (.loop (rec_ .ready none)); rwa [World.size_alloc] at this
  have hK1 : W1.heap[w.heap.size]? = some (.deferred (some [])) := by
    rw [← hW1]; exact (Below.heap_alloc _ _ _ (by simp)).trans (World.alloc_heap_new w _)
  have hI1 : I [] W1 := by rw [← hW1]; exact hI.more (hI.more h0 _) _
  have hb1 : Below w0.heap.size w0 W1 := by rw [← hW1]; exact hb0.trans ((alloc2_bel w _ _).mono hb0.size)
  refine ⟨w.heap.size + 1, [{ target := .collected w.heap.size, args := #[] }], W1, { target := .fn (.func gf) lb, args := #[.func (.yield (w.heap.size + 1)) #[] #[]] }, W1, gf, #[.func (.yield (w.heap.size + 1)) #[] #[]] ++ lb, W1, ?_, ?_, ?_, ?_, fun _ => h1, ?_⟩
  · rw [← hW1]; exact run_enterLoop_outer _ _ _ _ _
  · simp only [resolve, hg]
    simp [go_sem]
  · intro f' hf'; simp [Target.leads] at hf'; subst hf'; exact hFg
  · simp [invoke, go_sem, eg]
  · refine (hseq (w.heap.size + 1) (fun pre W => I pre W ∧ W.heap[w.heap.size + 1]? = some (.loop (rec_ .ready none)) ∧ W.heap[w.heap.size]? = some (.deferred (some []))) W1 hb1 ?_ ?_ ⟨hI1, hL1, hK1⟩).mono ?_
    · rintro s X Y row ⟨j1, j2, j3⟩ hgr hrow
      have lt : ∀ k o, k ≤ w.heap.size + 1 → X.heap[k]? = some o → Y.heap[k]? = some o := fun k o hk ho =>
        (hgr.block k (Array.getElem?_eq_some_iff.1 ho).1 (fun e => by have := hrow k e.symm; omega)).trans ho
      exact ⟨hI s X Y row j1 hgr (fun r e => by have := hrow r e; omega), lt _ _ (by omega) j2, lt _ _ (by omega) j3⟩
    · rintro pre x W ⟨hi, hl, hk⟩ hrest
      have hlt : w.heap.size + 1 < W.heap.size := (Array.getElem?_eq_some_iff.1 hl).1
      refine ⟨fn, _, assign, body, run_yield (P := P) (args := encs x) hl (hps x), roundIn_of_wpIn hfn (hassign _ x W _ ⟨_, run_beginRound hl rfl, ?_⟩)⟩
      have hl2 : (W.putObj (w.heap.size + 1) (.loop { rec_ .ready none with state := .busy })).heap[w.heap.size + 1]? = some (.loop { rec_ .ready none with state := .busy }) := World.putObj_heap_same hlt
      have hk2 : (W.putObj (w.heap.size + 1) (.loop { rec_ .ready none with state := .busy })).heap[w.heap.size]? = some (.deferred (some [])) := (World.putObj_heap_other (by omega)).trans hk
      refine wpIn_mono (hbody _ pre x _ (hI.put hi (by omega) _) hrest) ?_
      rintro e a3 W3 hp
      cases e with
      | normal =>
        obtain ⟨hk3, hkp3, hi3⟩ := hp
        have hl3 := hk3.same _ _ (by omega) hl2 rfl
        have hd3 := hk3.same _ _ (Nat.le_refl _) hk2 rfl
        exact ⟨_, _, run_endRound (P := P) none hl3, rfl, ⟨hI.put hi3 (by omega) _, World.putObj_heap_same (Array.getElem?_eq_some_iff.1 hl3).1, (World.putObj_heap_other (by omega)).trans hd3⟩,
          hKt (hKt (hKb _ _ _ _ (by omega) hl rfl) hkp3) (hKb _ _ _ _ (by omega) hl3 rfl)⟩
      | _ => exact hp.elim
    · rintro e W2 ⟨⟨v, rfl⟩, hi, hl, hk⟩
      exact ⟨none, _, run_endLoop (P := P) hl (by simp [rec_]), hdone _ _ (Nat.le_refl _) (hI.put hi (by omega) _) ((World.putObj_heap_other (by omega)).trans hk)⟩
end Go.Proofs.YtinpiodfpnbllaaGreatDoor

/- The round keys, as the iterator brings them. -/
namespace Go.Proofs.YtinpiodfpnbllaaGreatDoor
open Go.RowKit Go.Shelf
set_option linter.unusedVariables false
attribute [local go_sem] Oper.semAt_some

theorem round_nat (p : W2) (i : Nat) (hi : i < 32) (w : World) : Calls Tryz.prog 112 #[.agg #[.int .u64 (p.1.toNat : Int), .int .u64 (p.2.toNat : Int)], .int .u64 (i : Int)] w fun e w' => e = .returned (.agg #[.int .u64 ((rnd (UInt64.ofNat i) p).1.toNat : Int), .int .u64 ((rnd (UInt64.ofNat i) p).2.toNat : Int)]) ∧ Below w.heap.size w w' := by
  have e : ((UInt64.ofNat i).toNat : Int) = (i : Int) := by
    rw [UInt64.toNat_ofNat', Nat.mod_eq_of_lt (by omega)]
  have := round_any p (UInt64.ofNat i) w
  rw [e] at this
  exact this

/-- What a round keeps: cells from M on. -/
def KpM (M : Nat) (W W' : World) : Prop := ∀ k cs t fr, M ≤ k → W.heap[k]? = some (.cells cs t fr) → W'.heap[k]? = W.heap[k]?
theorem KpM.trans {M : Nat} {X Y Z : World} (h : KpM M X Y) (k : KpM M Y Z) : KpM M X Z := fun i cs t fr hi hx => by
  have h1 := h i cs t fr hi hx
  exact (k i cs t fr hi (h1.trans hx)).trans h1
theorem KpM.put {M : Nat} (W : World) (l : Nat) (o o' : Obj) (h : W.heap[l]? = some o) (ho : o.isCells = false) : KpM M W (W.putObj l o') := fun k cs t fr hk hx => by
  refine World.putObj_heap_other (fun e => ?_)
  subst e
  rw [h] at hx
  injection hx with hx
  rw [hx] at ho
  simp [Obj.isCells] at ho
theorem below_grown {w w' : World} (h : Below w.heap.size w w') : w.grownBy w' none := ⟨h.os, h.tape, h.output, h.size, fun k hk _ => h.block k hk⟩

theorem range_part (n i : Nat) (h : i < n) : ∃ rest, List.range n = List.range i ++ i :: rest := by
  obtain ⟨m, rfl⟩ : ∃ m, n = i + 1 + m := ⟨n - (i + 1), by omega⟩
  exact ⟨(List.range m).map (i + 1 + ·), by rw [List.range_add, List.range_succ]; simp⟩
/-- The key's number i, as the iterator hands it over. -/
def keyE (k : W2) (i : Nat) : Array Value := #[.int .i64 (i : Int), .int .u64 ((ksS k i).2.toNat : Int)]
set_option maxRecDepth 100000 in
set_option maxHeartbeats 2000000 in
theorem keys1_in (F : Fence) (n M : Nat) (hfn : ∀ f, F.fn f) (hro : F.round = none) (hn : 1 ≤ n)
    (conv : ∀ (f : FuncId) (args : Array Value) (W : World) (R : Ending → World → Prop) (n : Nat), Calls Tryz.prog f args W R → CallsIn F n Tryz.prog f args W R)
    (Bs : Nat) (k : List UInt8) (hk : k.length = 16) (w : World) (hB : Blk w Bs 24 (cellsB k).toArray) (hM : M ≤ w.heap.size) :
    Brings F n Tryz.prog 154 #[.pointer (some ⟨Bs, 0, none⟩)] (keyE (wds k)) (KpM M) (List.range 32) w := by
  intro l J W hW hJ hY h0
  have hBW : Blk W Bs 24 (cellsB k).toArray := hB.below hW hB.lt
  have hcell : ∀ j, W.cell? ⟨Bs, j, none⟩ = (cellsB k).toArray[j]? := fun j => hBW.cell j
  have hkl : (cellsB k).length = 16 := by rw [cellsB_length, hk]
  have HK := Lib.hid hk
  have HMW : Hid (M ≤ W.heap.size) := by have := hW.size; unfold Hid; omega
  have HYY := Lib.hid hY
  have HJJ := Lib.hid hJ
  have H0 := Lib.hid h0
  have CW : Hid (CallsIn F (n - 1) Tryz.prog 106 #[.agg (cellsB k).toArray] W fun e w' => e = .returned (.agg #[.int .u64 ((wds k).1.toNat : Int), .int .u64 ((wds k).2.toNat : Int)]) ∧ Below W.heap.size W w') := conv _ _ _ _ _ (wordsOf_any k W hk)
  have CR : Hid (∀ (p : W2) (i : Nat), i < 32 → ∀ W', CallsIn F (n - 1) Tryz.prog 112 #[.agg #[.int .u64 (p.1.toNat : Int), .int .u64 (p.2.toNat : Int)], .int .u64 (i : Int)] W' fun e w' => e = .returned (.agg #[.int .u64 ((rnd (UInt64.ofNat i) p).1.toNat : Int), .int .u64 ((rnd (UInt64.ofNat i) p).2.toNat : Int)]) ∧ Below W'.heap.size W' w') := fun p i hi W' => conv _ _ _ _ _ (round_nat p i hi W')
  clear hk hB hM hBW hY hJ h0 hW
  refine callsIn_of_wp Tryz.func154 rfl (hfn _) ?_ hro
  simp only [Tryz.ntmps154, List.size_toArray, List.length_cons, List.length_nil, Nat.reduceAdd, Nat.reduceSub, Array.replicate_succ, Array.replicate_zero, List.push_toArray, List.append_toArray, List.nil_append, List.cons_append]
  gi_wp2_with (gi_at_call 106; rw [fold16B k HK.out]; refine CW.out.mono ?_; rintro e w1 ⟨rfl, hb1⟩)
  have hs1 : M ≤ w1.heap.size := by have := HMW.out; have := hb1.size; omega
  have hsW : W.heap.size ≤ w1.heap.size := hb1.size
  gi_loopw [7] (fun vi wr => ∃ i : Nat, i ≤ 32 ∧ vi = .int .i64 (i : Int) ∧ J (List.range i) wr ∧ Blk wr w1.heap.size 167 #[.int .u64 ((ksS (wds k) i).1.toNat : Int), .int .u64 ((ksS (wds k) i).2.toNat : Int)]) (fun vi _ => 32 - (intOf vi).toNat)
  case atStart =>
    exact ⟨0, by omega, rfl, HJJ.out.more (HJJ.out _ _ _ none H0.out (below_grown hb1) (fun r e => by cases e)) _, Blk.new _ _ _⟩
  case round =>
    obtain ⟨i, hi, rfl, hJ, hB⟩ := hrel
    by_cases hlt : i < 32
    · have c0 := hB.cell 0
      have c1 := hB.cell 1
      simp only [List.getElem?_toArray, List.getElem?_cons_zero, List.getElem?_cons_succ] at c0 c1
      obtain ⟨fn, tmps, assign, body, hy, hR2⟩ := HYY.out _ i wr hJ (range_part 32 i hlt)
      have HR2 := Lib.hid hR2
      unfold keyE at hy
      have hii : (i : Int) < 32 := by omega
      have HRS : Hid (List.range (i + 1) = List.range i ++ [i]) := List.range_succ
      obtain ⟨p, hp⟩ : ∃ p, ksS (wds k) i = p := ⟨_, rfl⟩
      have HP : Hid (ksS (wds k) (i + 1) = rnd (UInt64.ofNat i) p) := by unfold Hid; rw [ksS, hp]
      rw [hp] at hy hB c0 c1
      have hx := u64_bd p.1
      have hy2 := u64_bd p.2
      clear hJ hR2 hp
      gi_wp2
      refine HR2.out.mono ?_
      rintro e W3 ⟨rfl, hJ3, hk3⟩
      have hB3 : Blk W3 w1.heap.size 167 #[.int .u64 (p.1.toNat : Int), .int .u64 (p.2.toNat : Int)] := (hk3 _ _ _ _ hs1 hB).trans hB
      have d0 := hB3.cell 0
      have d1 := hB3.cell 1
      simp only [List.getElem?_toArray, List.getElem?_cons_zero, List.getElem?_cons_succ] at d0 d1
      have HB3 := Lib.hid hB3
      have HJ3 := Lib.hid hJ3
      clear c0 c1 hy hB hJ3 hk3 hB3
      gi_wp2_with (gi_at_call 112; refine (CR.out p i hlt _).mono ?_; rintro e w4 ⟨rfl, hb4⟩; have hB4 := HB3.out.below' hb4; have f0 := hB4.frozen 0; have f1 := hB4.frozen 1; have g0 := hB4.cell 0; have g1 := hB4.cell 1; simp only [List.getElem?_toArray, List.getElem?_cons_zero, List.getElem?_cons_succ] at g0 g1; have HB4 := Lib.hid hB4; clear hB4)
      go_roundw
      case rel =>
        refine ⟨i + 1, by omega, by go_num, ?_, by rw [HP.out]; simpa using (HB4.out.set_ 0 (.int .u64 ((rnd (UInt64.ofNat i) p).1.toNat : Int))).set_ 1 (.int .u64 ((rnd (UInt64.ofNat i) p).2.toNat : Int))⟩
        rw [HRS.out]
        have j4 := HJJ.out _ _ _ none HJ3.out (below_grown hb4) (fun r e => by cases e)
        have gs : ∀ (X : World) (o : Nat) (v : Value), X.grownBy (X.setCell ⟨w1.heap.size, o, none⟩ v) (some w1.heap.size) := fun X o v => ⟨rfl, rfl, rfl, by simp [World.setCell], fun j hj hne => Below.heap_setCell X ⟨w1.heap.size, o, none⟩ v j (fun e => hne (by rw [e]))⟩
        exact HJJ.out _ _ _ _ (HJJ.out _ _ _ _ j4 (gs _ 0 _) (fun r e => by cases e; exact hsW)) (gs _ 1 _) (fun r e => by cases e; exact hsW)
      case measure => simp [intOf]; omega
    · obtain rfl : i = 32 := by omega
      gi_wp2
      go_end0
      exact ⟨⟨_, rfl⟩, hJ⟩
end Go.Proofs.YtinpiodfpnbllaaGreatDoor

/- Encrypt: the rounds. -/
namespace Go.Proofs.YtinpiodfpnbllaaGreatDoor
open Go.RowKit Go.Shelf
set_option linter.unusedVariables false
attribute [local go_sem] Oper.semAt_some run_storeCells_key

set_option maxHeartbeats 1000000 in
theorem keys_any (k : List UInt8) (w : World) : Calls Tryz.prog 105 #[.agg (cellsB k).toArray] w fun e w' => e = .returned (.func (.func 154) #[] #[.pointer (some ⟨w.heap.size, 0, none⟩)]) ∧ w' = w.alloc (.cells (cellsB k).toArray 24) := by
  go_enter Tryz.func105, Tryz.ntmps105
  go_wp2_with fail
  go_ret
  exact ⟨rfl, rfl⟩

set_option maxRecDepth 100000 in
set_option maxHeartbeats 2000000 in
theorem Encrypt_any (k b : List UInt8) (w : World) (hk : k.length = 16) (hb : b.length = 16) : Calls Tryz.prog 51 #[.agg (cellsB k).toArray, .agg (cellsB b).toArray] w fun e w' => e = .returned (.agg (cellsB (encS k b)).toArray) ∧ Below w.heap.size w w' := by
  have HK := Lib.hid hk
  have HB := Lib.hid hb
  have hkl : (cellsB k).length = 16 := by rw [cellsB_length, hk]
  have hbl : (cellsB b).length = 16 := by rw [cellsB_length, hb]
  have HZ := Lib.hid zero16
  refine (callsIn_wide (n := 6)).1 ?_
  have conv : ∀ (f : FuncId) (args : Array Value) (W : World) (R : Ending → World → Prop) (n : Nat), Calls Tryz.prog f args W R → CallsIn Fence.wide n Tryz.prog f args W R := fun _ _ _ _ _ h => callsIn_wide.2 h
  have hro : Fence.wide.round = none := rfl
  have hfn : ∀ f, Fence.wide.fn f := fun _ => trivial
  generalize Fence.wide = F at *
  clear hk hb
  refine callsIn_of_wp_marks Tryz.func51 rfl (hfn _) ?_ hro
  simp only [Tryz.ntmps51, List.size_toArray, List.length_cons, List.length_nil, Nat.reduceAdd, Nat.reduceSub, Array.replicate_succ, Array.replicate_zero, List.push_toArray, List.append_toArray, List.nil_append, List.cons_append]
  gi_wp2_with (first
    | (gi_at_call 106; rw [fold16B b HB.out, HZ.out]; refine (conv _ _ _ _ _ (wordsOf_any b _ HB.out)).mono ?_; rintro e w1 ⟨rfl, hb1⟩; have hck : ∀ j o, (w1.alloc o).cell? ⟨w.heap.size, j, none⟩ = (cellsB k).toArray[j]? := fun j o => (((blk_a0 w (cellsB k).toArray 24 _ _).below' hb1).alloc o).cell j; have hz : w.heap.size + 1 + 1 < w1.heap.size := by have := hb1.size; simp at this; omega)
    | (gi_at_call 105; rw [fold16B k HK.out]; refine (conv _ _ _ _ _ (keys_any k _)).mono ?_; rintro e w2 ⟨rfl, rfl⟩))
  have hB0 : Blk w1 (w.heap.size + 1 + 1) 24 (cellsB zeroK).toArray := (blk_a2 w _ _ (cellsB zeroK).toArray 24).below' hb1
  have hb01 : Below w.heap.size w w1 := (alloc3_bel w _ _ _).trans (hb1.mono (alloc3_bel w _ _ _).size)
  obtain ⟨WS, hWS⟩ : ∃ W : World, W = (w1.alloc (.cells #[.int .u64 ((wds b).1.toNat : Int), .int .u64 ((wds b).2.toNat : Int)] 167)).alloc (.cells (cellsB k).toArray 24) := ⟨_, rfl⟩
  have sWS : WS.heap.size = w1.heap.size + 1 + 1 := by rw [hWS]; simp
  have bP : Blk WS w1.heap.size 167 #[.int .u64 ((wds b).1.toNat : Int), .int .u64 ((wds b).2.toNat : Int)] := by rw [hWS]; exact blk_b0 _ _ _ _
  have bK : Blk WS (w1.heap.size + 1) 24 (cellsB k).toArray := by rw [hWS]; exact blk_b1 _ _ _ _
  have bR : Blk WS (w.heap.size + 1 + 1) 24 (cellsB zeroK).toArray := by rw [hWS]; exact (hB0.alloc _).alloc _
  have b0S : Below w.heap.size w WS := by rw [hWS]; exact hb01.trans ((alloc2_bel w1 _ _).mono hb01.size)
  rw [← hWS]
  have HRD : Hid (∀ (p : W2) (u : UInt64) W', CallsIn F 3 Tryz.prog 112 #[.agg #[.int .u64 (p.1.toNat : Int), .int .u64 (p.2.toNat : Int)], .int .u64 (u.toNat : Int)] W' fun e w' => e = .returned (.agg #[.int .u64 ((rnd u p).1.toNat : Int), .int .u64 ((rnd u p).2.toNat : Int)]) ∧ Below W'.heap.size W' w') := fun p u W' => conv _ _ _ _ _ (round_any p u W')
  have HBL : Hid (∀ (p : W2) W', CallsIn F 5 Tryz.prog 108 #[.agg #[.int .u64 (p.1.toNat : Int), .int .u64 (p.2.toNat : Int)]] W' fun e w' => e = .returned (.agg (cellsB (blk p)).toArray) ∧ Below W'.heap.size W' w') := fun p W' => conv _ _ _ _ _ (block_any p W')
  clear hck hkl hbl hWS hB0
  refine wpIn_range_box (xs := List.range 32) hro (by omega) (gf := 154) (lb := #[.pointer (some ⟨w1.heap.size + 1, 0, none⟩)]) rfl (hfn _) (enters_of Tryz.func154 (by kernel_rfl) rfl)
    (keys1_in F 5 (w1.heap.size + 1) hfn hro (by omega) conv (w1.heap.size + 1) k HK.out WS bK (by omega)) KpM.trans (fun W l o o' _ h ho => KpM.put W l o o' h ho) (Below.refl _ _) (fun _ => rfl)
    (fun pre W => Blk W w1.heap.size 167 #[.int .u64 ((enW (wds k) (wds b) pre.length).1.toNat : Int), .int .u64 ((enW (wds k) (wds b) pre.length).2.toNat : Int)] ∧ Blk W (w.heap.size + 1 + 1) 24 (cellsB zeroK).toArray ∧ Below w.heap.size w W)
    ?hI ⟨bP, bR, b0S⟩ (fun x => { tmps := #[.agg (cellsB k).toArray, .agg (cellsB b).toArray, .pointer (some ⟨w.heap.size, 0, none⟩), .pointer (some ⟨w.heap.size + 1, 0, none⟩), .pointer (some ⟨w.heap.size + 1 + 1, 0, none⟩), .pointer (some ⟨w1.heap.size, 0, none⟩), undef, .int .u64 ((ksS (wds k) x).2.toNat : Int), .agg (cellsB b).toArray,
      .agg #[.int .u64 ((wds b).1.toNat : Int), .int .u64 ((wds b).2.toNat : Int)], .agg (cellsB k).toArray, .func (.func 154) #[] #[.pointer (some ⟨w1.heap.size + 1, 0, none⟩)], .int .i64 (x : Int), .int .u64 ((ksS (wds k) x).2.toNat : Int), undef, undef, undef, undef, undef], defers := [] }) ?assign ?body ?done
  case hI =>
    rintro pre X Y row ⟨i1, i2, i3⟩ hg hr
    exact ⟨(hg.block _ i1.lt (fun e => by have := hr _ e.symm; omega)).trans i1, (hg.block _ i2.lt (fun e => by have := hr _ e.symm; omega)).trans i2, i3.grown hg i3.size (fun g e => by have := hr g e; have := b0S.size; omega)⟩
  case assign =>
    intro l x W K hK
    unfold keyE
    gi_wp2
    exact hK
  case body =>
    rintro l pre x W ⟨i1, i2, i3⟩ ⟨rest, hrest⟩
    have hx : x = pre.length := by
      have := congrArg (fun l => l[pre.length]?) hrest
      simp only [List.getElem?_append_right (Nat.le_refl _), Nat.sub_self, List.getElem?_cons_zero] at this
      rcases Nat.lt_or_ge pre.length 32 with h | h
      · rw [List.getElem?_range h] at this
        injection this with this
        exact this.symm
      · rw [List.getElem?_eq_none (by simpa using h)] at this; cases this
    obtain ⟨p, hp⟩ : ∃ p, enW (wds k) (wds b) pre.length = p := ⟨_, rfl⟩
    have HN : Hid (enW (wds k) (wds b) (pre ++ [x]).length = rnd (ksS (wds k) x).2 p) := by
      unfold Hid
      rw [List.length_append, show [x].length = 1 from rfl, enW, hp, hx]
    rw [hp] at i1
    have c0 := i1.cell 0
    have c1 := i1.cell 1
    simp only [List.getElem?_toArray, List.getElem?_cons_zero, List.getElem?_cons_succ] at c0 c1
    obtain ⟨u, hu⟩ : ∃ u, (ksS (wds k) x).2 = u := ⟨_, rfl⟩
    rw [hu] at HN ⊢
    have I1 := Lib.hid i1
    have I2 := Lib.hid i2
    have LT1 := Lib.hid i2.lt
    clear hp hx hu hrest i1 i2
    gi_wp2_with (gi_at_call 112; refine (CallsIn.inRound l (HRD.out p u _)).mono ?_; rintro e w4 ⟨rfl, hb4⟩; have hB4 := I1.out.below' hb4; have f0 := hB4.frozen 0; have f1 := hB4.frozen 1; have g0 := hB4.cell 0; have g1 := hB4.cell 1; simp only [List.getElem?_toArray, List.getElem?_cons_zero, List.getElem?_cons_succ] at g0 g1; have HB4 := Lib.hid hB4; clear hB4)
    have kf0 : KeepsFrom WS.heap.size W w4 := ⟨hb4.size, fun k o _ hk ho => (hb4.block k (Array.getElem?_eq_some_iff.1 hk).1).trans hk⟩
    have kf := (kf0.trans ((KeepsOthers.setCell w4 ⟨w1.heap.size, 0, none⟩ (.int .u64 ((rnd u p).1.toNat : Int))).from WS.heap.size)).trans ((KeepsOthers.setCell (w4.setCell ⟨w1.heap.size, 0, none⟩ (.int .u64 ((rnd u p).1.toNat : Int))) ⟨w1.heap.size, 1, none⟩ (.int .u64 ((rnd u p).2.toNat : Int))).from WS.heap.size)
    refine ⟨kf, ?_, ?_, ?_, ?_⟩
    · intro j cs t fr hj hc
      exact ((Below.heap_setCell _ ⟨w1.heap.size, 1, none⟩ _ j (by simp; omega)).trans (Below.heap_setCell _ ⟨w1.heap.size, 0, none⟩ _ j (by simp; omega))).trans (hb4.block j (Array.getElem?_eq_some_iff.1 hc).1)
    · rw [HN.out]
      simpa using (HB4.out.set_ 0 (.int .u64 ((rnd u p).1.toNat : Int))).set_ 1 (.int .u64 ((rnd u p).2.toNat : Int))
    · exact ((I2.out.below' hb4).far (p := ⟨w1.heap.size, 0, none⟩) (by simp; omega) _).far (p := ⟨w1.heap.size, 1, none⟩) (by simp; omega) _
    · exact ((i3.trans (hb4.mono i3.size)).setCell (p := ⟨w1.heap.size, 0, none⟩) (by simp; omega) _).setCell (p := ⟨w1.heap.size, 1, none⟩) (by simp; omega) _
  case done =>
    rintro D W hD ⟨i1, i2, i3⟩ hK
    rw [List.length_range] at i1
    have HE : Hid (encS k b = blk (enW (wds k) (wds b) 32)) := rfl
    obtain ⟨p, hp⟩ : ∃ p, enW (wds k) (wds b) 32 = p := ⟨_, rfl⟩
    rw [hp] at i1 HE
    have c0 := i1.cell 0
    have c1 := i1.cell 1
    simp only [List.getElem?_toArray, List.getElem?_cons_zero, List.getElem?_cons_succ] at c0 c1
    have hl : (cellsB (blk p)).length = 16 := rfl
    have hall : (cellsB (blk p)).all (·.oneCell') = true := List.all_eq_true.2 (cellsB_one _)
    have I2 := Lib.hid i2
    clear hp i1 i2
    gi_wp2_with (gi_at_call 108; refine (HBL.out p _).mono ?_; rintro e w5 ⟨rfl, hb5⟩; have hB5 := I2.out.below' hb5; have hr5 : (rowAt w5 (w.heap.size + 1 + 1)).size = 16 := by { rw [hB5.row]; rfl }; have hf5 := hB5.free; have HB5 := Lib.hid hB5; clear hB5)
    have hD2 : D < W.heap.size := (Array.getElem?_eq_some_iff.1 hK).1
    have hB6 := HB5.out.setRow (cellsB (blk p)).toArray
    have hDne : D ≠ w.heap.size + 1 + 1 := by omega
    have hK' : (w5.setRow (w.heap.size + 1 + 1) (cellsB (blk p)).toArray).heap[D]? = some (.deferred (some [])) := (setRow_other _ _ _ _ hDne).trans ((hb5.block D hD2).trans hK)
    have hB7 : Blk ((w5.setRow (w.heap.size + 1 + 1) (cellsB (blk p)).toArray).putObj D (.deferred none)) (w.heap.size + 1 + 1) 24 (cellsB (blk p)).toArray := (World.putObj_heap_other (by omega)).trans hB6
    have hbel : Below w.heap.size w (w5.setRow (w.heap.size + 1 + 1) (cellsB (blk p)).toArray) := below_setRow (i3.trans (hb5.mono i3.size)) (by omega) _
    refine ⟨by simp, .inl ⟨_, _, rfl, run_takeDeferred hK', ?_⟩⟩
    exact ⟨.agg (cellsB (blk p)).toArray, results_cell_row rfl _ _ (w.heap.size + 1 + 1) _ _ (0, 0) _ rfl hB7 under_key rfl (cellsB_size _ rfl), by rw [HE.out], hbel.trans (belowK_b (w := w) (Nat.le_refl _) _ D _ _ (by have := b0S.size; omega) hK' rfl rfl)⟩
end Go.Proofs.YtinpiodfpnbllaaGreatDoor

/- What is derived; a number below most: the program. -/
namespace Go.Proofs.YtinpiodfpnbllaaGreatDoor
open Go.RowKit Go.Shelf
set_option linter.unusedVariables false
attribute [local go_sem] run_storeCells_key

theorem tag_word (t : UInt8) (c : UInt64) : bits .or .u64 ((t.toNat : Int) * 72057594037927936) (c.toNat : Int) = ((t.toUInt64 <<< 56 ||| c).toNat : Int) := by
  rw [show (t.toNat : Int) * 72057594037927936 = IntKind.u64.wrap ((t.toNat : Int) * 72057594037927936) from by rw [IntKind.wrap_u64]; have := t.toNat_lt; omega]
  rw [show (t.toNat : Int) = (t.toUInt64.toNat : Int) from by rw [UInt8.toNat_toUInt64], u64_shl56, u64_or]
theorem all16 (l : List UInt8) : (cellsB l).all (·.oneCell') = true := List.all_eq_true.2 (cellsB_one _)

set_option maxHeartbeats 1000000 in
theorem blockOf_any (t : UInt8) (c n : UInt64) (w : World) : Calls Tryz.prog 111 #[.int .u8 (t.toNat : Int), .int .u64 (c.toNat : Int), .int .u64 (n.toNat : Int)] w fun e w' => e = .returned (.agg (cellsB (tagS t c n)).toArray) ∧ Below w.heap.size w w' := by
  have HZ := Lib.hid zero16
  have ht : (t.toNat : Int) ≤ 255 := by have := t.toNat_lt; omega
  have hc := u64_bd c
  have HT := Lib.hid (tag_word t c)
  have HE : Hid (tagS t c n = blk (t.toUInt64 <<< 56 ||| c, n)) := rfl
  obtain ⟨p, hp⟩ : ∃ p : W2, (t.toUInt64 <<< 56 ||| c, n) = p := ⟨_, rfl⟩
  have hl : (cellsB (blk p)).length = 16 := rfl
  have hall := all16 (blk p)
  rw [hp] at HE
  have HP : Hid ((t.toUInt64 <<< 56 ||| c) = p.1) := congrArg Prod.fst hp
  have HP2 : Hid (n = p.2) := congrArg Prod.snd hp
  clear hp
  go_enter Tryz.func111, Tryz.ntmps111
  go_wp2_with (go_at_call 108; rw [HT.out, HP.out, HP2.out, HZ.out]; refine (block_any p _).mono ?_; rintro e w1 ⟨rfl, hb1⟩; have hB1 := (Blk.new w 24 (cellsB zeroK).toArray).below' hb1; have hr1 : (rowAt w1 w.heap.size).size = 16 := by { rw [hB1.row]; rfl }; have hf1 := hB1.free; have HB1 := Lib.hid hB1; clear hB1)
  exact bodyPost_ret (results_cell_row rfl _ _ w.heap.size _ _ (0, 0) _ rfl (HB1.out.setRow (cellsB (blk p)).toArray) under_key rfl (cellsB_size _ rfl)) rfl ⟨by rw [HE.out], below_setRow ((alloc_bel _ _).trans (hb1.mono (alloc_bel _ _).size)) (Nat.le_refl _) _⟩

theorem blockOf_zero (t : UInt8) (n : UInt64) (w : World) : Calls Tryz.prog 111 #[.int .u8 (t.toNat : Int), .int .u64 0, .int .u64 (n.toNat : Int)] w fun e w' => e = .returned (.agg (cellsB (tagS t 0 n)).toArray) ∧ Below w.heap.size w w' := blockOf_any t 0 n w
set_option maxHeartbeats 1000000 in
theorem Derive_any (k : List UInt8) (t : UInt8) (n : UInt64) (w : World) (hk : k.length = 16) : Calls Tryz.prog 49 #[.agg (cellsB k).toArray, .int .u8 (t.toNat : Int), .int .u64 (n.toNat : Int)] w fun e w' => e = .returned (.agg (cellsB (derS k t n)).toArray) ∧ Below w.heap.size w w' := by
  have HK := Lib.hid hk
  have HZ := Lib.hid zero16
  have hkl : (cellsB k).length = 16 := by rw [cellsB_length, hk]
  have HE : Hid (derS k t n = encS k (tagS t 0 n)) := rfl
  have hl : (cellsB (encS k (tagS t 0 n))).length = 16 := rfl
  have hall := all16 (encS k (tagS t 0 n))
  clear hk
  go_enter Tryz.func49, Tryz.ntmps49
  go_wp2_with fail
  rw [HZ.out]
  go_region_with (first
    | (go_at_call 111; refine (blockOf_zero t n _).mono ?_; rintro e w1 ⟨rfl, hb1⟩; have hck : ∀ j, w1.cell? ⟨w.heap.size, j, none⟩ = (cellsB k).toArray[j]? := fun j => ((blk_b0 w (cellsB k).toArray 24 _).drew.below' hb1).cell j)
    | (go_at_call 51; rw [fold16B k HK.out]; refine (Encrypt_any k (tagS t 0 n) _ HK.out rfl).mono ?_; rintro e w2 ⟨rfl, hb2⟩; have hB2 := ((blk_b1 w (.cells (cellsB k).toArray 24) (cellsB zeroK).toArray 24).drew.below' hb1).below' hb2; have hr2 : (rowAt w2 (w.heap.size + 1)).size = 16 := by { rw [hB2.row]; rfl }; have hf2 := hB2.free; have HB2 := Lib.hid hB2; clear hB2))
  all_goals
    go_wp2_with fail
    exact bodyPost_ret (results_cell_row rfl _ _ (w.heap.size + 1) _ _ (0, 0) _ rfl (HB2.out.setRow (cellsB (encS k (tagS t 0 n))).toArray) under_key rfl (cellsB_size _ rfl)) rfl ⟨by rw [HE.out], below_setRow (((alloc2_bel w _ _).drew.trans (hb1.mono (alloc2_bel w _ _).size)).trans (hb2.mono (Nat.le_trans (alloc2_bel w _ _).size hb1.size))) (by omega) _⟩

theorem numS_pos {k : List UInt8} {n most : UInt64} (h : most ≠ 0) : numS k n most = (wds (derS k 3 n)).1 % most := by rw [numS, if_neg h]
theorem numS_zero {k : List UInt8} {n : UInt64} : numS k n 0 = 0 := by rw [numS, if_pos rfl]
end Go.Proofs.YtinpiodfpnbllaaGreatDoor

/- The stream of a key: the program's. -/
namespace Go.Proofs.YtinpiodfpnbllaaGreatDoor
open Go.RowKit
set_option linter.unusedVariables false
attribute [local go_sem] run_storeCells_key

/-- A byte of the stream xor a byte; the stream xor some bytes, or the error. -/
def stB1 (k : List UInt8) (n : UInt64) (b : List UInt8) (i : Nat) : UInt8 := b.getD i 0 ^^^ (encS k (tagS 1 (UInt64.ofNat (i / 16)) n)).getD (i % 16) 0
def streamS (k : List UInt8) (n : UInt64) (b : List UInt8) : List UInt8 := (List.range b.length).map (stB1 k n b)
def stP (k : List UInt8) (n : UInt64) (b : List UInt8) (i : Nat) : List UInt8 := (List.range b.length).map fun j => if j < i then stB1 k n b j else 0
def strR (k : List UInt8) (n : UInt64) (b : List UInt8) : List UInt8 × Int := if 16384 < b.length then ([], 4) else (streamS k n b, 0)
theorem streamS_length (k : List UInt8) (n : UInt64) (b : List UInt8) : (streamS k n b).length = b.length := by simp [streamS]
theorem stP_length (k : List UInt8) (n : UInt64) (b : List UInt8) (i : Nat) : (stP k n b i).length = b.length := by simp [stP]
theorem stP_zero (k : List UInt8) (n : UInt64) (b : List UInt8) : stP k n b 0 = List.replicate b.length 0 := by
  refine List.ext_getElem (by simp [stP]) fun i h1 h2 => ?_
  simp [stP]
theorem stP_fin (k : List UInt8) (n : UInt64) (b : List UInt8) : stP k n b b.length = streamS k n b := by
  refine List.ext_getElem (by simp [stP, streamS]) fun i h1 h2 => ?_
  have : i < b.length := by simpa [stP] using h1
  simp [stP, streamS, this]
theorem stP_set {k : List UInt8} {n : UInt64} {b : List UInt8} {i : Nat} (hi : i < b.length) : (stP k n b i).set i (stB1 k n b i) = stP k n b (i + 1) := by
  refine List.ext_getElem (by simp [stP]) fun j h1 h2 => ?_
  simp only [stP, List.getElem_set, List.getElem_map, List.getElem_range]
  by_cases e : i = j
  · subst e; simp
  · rw [if_neg e]
    have : (j < i) ↔ (j < i + 1) := by omega
    simp [this]
theorem xor_u8 (a b : UInt8) : bits .xor .u8 (a.toNat : Int) (b.toNat : Int) = ((a ^^^ b).toNat : Int) := by
  rw [u8_xor_nat _ _ a.toNat_lt b.toNat_lt, UInt8.toNat_xor]
theorem wrap_sixteenth {i : Nat} (h : i < 20000) : IntKind.u64.wrap (IntKind.i64.wrap ((i : Int) / (16 : Int))) = ((UInt64.ofNat (i / 16)).toNat : Int) := by
  rw [UInt64.toNat_ofNat', Nat.mod_eq_of_lt (by omega), IntKind.wrap_i64, IntKind.wrap_u64]
  omega

set_option maxHeartbeats 2000000 in
set_option maxRecDepth 100000 in
theorem Stream_any (k : List UInt8) (n : UInt64) (A : Option Addr) (c : Nat) (b : List UInt8) (w : World) {L : Nat} (hL : b.length = L) (h : BR w A c b) (hk : k.length = 16) :
    Calls Tryz.prog 50 #[.agg (cellsB k).toArray, .int .u64 (n.toNat : Int), .slice A L c] w fun e w' => BytesErr w.heap.size (strR k n b) e w' ∧ Below w.heap.size w w' := by
  have hl0 : (L : Int) ≤ 140737488351232 := by have := h.len; omega
  have HL := Lib.hid hL
  have H := Lib.hid h
  have HK := Lib.hid hk
  have b0 := alloc_bel w (.cells (cellsB k).toArray 24)
  have HZ := Lib.hid zero16
  by_cases hbig : 16384 < L
  · have hbi : (16384 : Int) < L := by omega
    have HS : Hid (strR k n b = ([], 4)) := by unfold Hid strR; rw [if_pos (by omega)]
    clear hL h hk hbig
    go_enter Tryz.func50, Tryz.ntmps50
    go_wp2_with fail
    go_ret2
    exact ⟨bytesErr_nil _ _ _ HS.out, b0⟩
  · have hbi : (L : Int) ≤ 16384 := by omega
    have HS : Hid (strR k n b = (streamS k n b, 0)) := by unfold Hid strR; rw [if_neg (by omega)]
    have hkl : (cellsB k).length = 16 := by rw [cellsB_length, hk]
    have hmk := run_make_row' (P := Tryz.prog) 22 5 (.int .u8 0) 1 Tryz.underlying22 (by kernel_rfl) rfl .i64 .i64 L (by omega) (by omega)
    have HMB := Lib.hid (made_bytes L)
    have HF := Lib.hid (stP_fin k n b)
    clear hL h hk hbig
    go_enter Tryz.func50, Tryz.ntmps50
    go_wp2_with fail
    rw [HMB.out, HZ.out]
    go_loopw [20] (fun vk wr => ∃ (i : Nat) (m : List UInt8), i ≤ L ∧ vk = .int .i64 (i : Int) ∧ Blk wr w.heap.size 24 (cellsB k).toArray ∧ Hid (Blk wr (w.heap.size + 1) 5 (cellsB (stP k n b i)).toArray) ∧ m.length = 16 ∧ Blk wr (w.heap.size + 1 + 1) 24 (cellsB m).toArray ∧ (i % 16 ≠ 0 → m = encS k (tagS 1 (UInt64.ofNat (i / 16)) n)) ∧ Below w.heap.size w wr) (fun vk _ => L - (intOf vk).toNat)
    case atStart => exact ⟨0, zeroK, by omega, rfl, blk_a0 _ _ _ _ _, by rw [stP_zero, HL.out]; exact blk_a1 _ _ _ _ _, rfl, blk_a2 _ _ _ _ _, fun h => absurd rfl h, alloc3_bel _ _ _ _⟩
    case round =>
      obtain ⟨i, m, hi, rfl, hB1, HB2, hm, hB3, hme, hbel⟩ := hrel
      by_cases hin : i < L
      · have hil : i < b.length := by have := HL.out; omega
        obtain ⟨bb, off, rfl, hbb, hc⟩ := (H.out.below hbel).at_ (i := i) hil
        have hii : (i : Int) < L := by omega
        by_cases h16 : i % 16 = 0
        · have HBO : Hid (∀ W, Calls Tryz.prog 111 #[.int .u8 1, .int .u64 (IntKind.u64.wrap (IntKind.i64.wrap ((i : Int) / (16 : Int)))), .int .u64 (n.toNat : Int)] W fun e w' => e = .returned (.agg (cellsB (tagS 1 (UInt64.ofNat (i / 16)) n)).toArray) ∧ Below W.heap.size W w') := fun W => by
            have h1 := blockOf_any 1 (UInt64.ofNat (i / 16)) n W
            rw [← wrap_sixteenth (by omega : i < 20000)] at h1
            exact h1
          obtain ⟨t, ht⟩ : ∃ t, tagS 1 (UInt64.ofNat (i / 16)) n = t := ⟨_, rfl⟩
          have htl : t.length = 16 := by rw [← ht]; rfl
          have HT := Lib.hid ht
          rw [ht] at HBO
          have HTL := Lib.hid htl
          have HSET := Lib.hid (stP_set (k := k) (n := n) hil)
          have HST : Hid (stB1 k n b i = b.getD i 0 ^^^ (encS k t).getD 0 0) := by unfold Hid stB1; rw [ht, h16]
          have hl : (cellsB (encS k t)).length = 16 := rfl
          have hall := all16 (encS k t)
          have hri : (i : Int) % 16 = 0 := by omega
          have hckw := hB1.cell
          have HB1 := Lib.hid hB1
          have HB3 := Lib.hid hB3
          have HM := Lib.hid hm
          clear ht htl hme hil hB1 hB3 hm
          go_wp2_with fail
          go_region_with (first
            | (go_at_call 111; refine (HBO.out _).mono ?_; rintro e w1 ⟨rfl, hb1⟩; have hck : ∀ j, w1.cell? ⟨w.heap.size, j, none⟩ = (cellsB k).toArray[j]? := fun j => (HB1.out.drew.below' hb1).cell j)
            | (go_at_call 51; rw [fold16B k HK.out]; refine (Encrypt_any k t _ HK.out HTL.out).mono ?_; rintro e w2 ⟨rfl, hb2⟩; have hB2 := (HB3.out.drew.below' hb1).below' hb2; have hr2 : (rowAt w2 (w.heap.size + 1 + 1)).size = 16 := by { rw [hB2.row]; simp [cellsB, HM.out] }; have hf2 := hB2.free; have HB2' := Lib.hid hB2; clear hB2))
          all_goals
            have B3 := HB2'.out.setRow (cellsB (encS k t)).toArray
            have B1 : Blk (w2.setRow (w.heap.size + 1 + 1) (cellsB (encS k t)).toArray) w.heap.size 24 (cellsB k).toArray := (setRow_other _ _ _ _ (by omega)).trans ((HB1.out.drew.below' hb1).below' hb2)
            have BO : Blk (w2.setRow (w.heap.size + 1 + 1) (cellsB (encS k t)).toArray) (w.heap.size + 1) 5 (cellsB (stP k n b i)).toArray := (setRow_other _ _ _ _ (by omega)).trans ((HB2.out.drew.below' hb1).below' hb2)
            have hbF : Below w.heap.size w (w2.setRow (w.heap.size + 1 + 1) (cellsB (encS k t)).toArray) := below_setRow ((hbel.drew.trans (hb1.mono hbel.size)).trans (hb2.mono (Nat.le_trans hbel.size hb1.size))) (by omega) _
            clear hl hall hr2 hf2 HB2'
            clear hck hb1 hb2
            generalize w2.setRow (w.heap.size + 1 + 1) (cellsB (encS k t)).toArray = W3 at *
            have c0 := B3.cell 0
            rw [bytes_get _ 0 (by rw [encS_length]; omega)] at c0
            have d0 := BO.cell i
            rw [bytes_get _ i (by rw [stP_length]; have := HL.out; omega)] at d0
            have f0 := BO.frozen i
            have hx1 : (bt b i : Int) ≤ 255 := bt_le b i
            obtain ⟨x, hx⟩ : ∃ x, (encS k t).getD 0 0 = x := ⟨_, rfl⟩
            rw [hx] at c0 HST
            have HB31 := Lib.hid B3
            have HB11 := Lib.hid B1
            have HBO1 := Lib.hid BO
            have HX : Hid (bits .xor .u8 (bt b i : Int) (x.toNat : Int) = ((stB1 k n b i).toNat : Int)) := by unfold Hid; rw [HST.out]; exact xor_u8 _ _
            clear B3 B1 BO hx
            go_wp2_with fail
            rw [HX.out]
            refine ⟨⟨i + 1, encS k t, by omega, by go_num, HB11.out.far (p := ⟨w.heap.size + 1, i, none⟩) (by simp) _, ?_, encS_length _ _, HB31.out.far (p := ⟨w.heap.size + 1, i, none⟩) (by simp) _, fun _ => ?_, hbF.setCell (p := ⟨w.heap.size + 1, i, none⟩) (by simp) _⟩, by simp [intOf]; omega⟩
            · have h := HBO1.out.set_ i (.int .u8 ((stB1 k n b i).toNat : Int))
              rw [bytes_set, HSET.out] at h
              exact h
            · rw [show (i + 1) / 16 = i / 16 from by omega, HT.out]
        · obtain ⟨r, hr⟩ : ∃ r, i % 16 = r := ⟨_, rfl⟩
          have hri : (i : Int) % 16 = (r : Int) := by omega
          have hr1 : 1 ≤ (r : Int) := by omega
          have hr2 : (r : Int) < 16 := by omega
          have hrn : r < 16 := by omega
          have hme' := hme h16
          have HST : Hid (stB1 k n b i = b.getD i 0 ^^^ m.getD r 0) := by unfold Hid stB1; rw [hme', hr]
          have HSET := Lib.hid (stP_set (k := k) (n := n) hil)
          have c0 := hB3.cell r
          rw [bytes_get _ r (by rw [hm]; exact hrn)] at c0
          have d0 := HB2.out.cell i
          rw [bytes_get _ i (by rw [stP_length]; exact hil)] at d0
          have f0 := HB2.out.frozen i
          have hx1 : (bt b i : Int) ≤ 255 := bt_le b i
          obtain ⟨x, hx⟩ : ∃ x, m.getD r 0 = x := ⟨_, rfl⟩
          rw [hx] at c0 HST
          have HX : Hid (bits .xor .u8 (bt b i : Int) (x.toNat : Int) = ((stB1 k n b i).toNat : Int)) := by unfold Hid; rw [HST.out]; exact xor_u8 _ _
          have HB1 := Lib.hid hB1
          have HB3 := Lib.hid hB3
          have HM := Lib.hid hm
          have HME := Lib.hid hme'
          have HR := Lib.hid hr
          have H16 := Lib.hid h16
          clear hx hme hme' hil hB1 hB3 hm hr hrn h16
          go_wp2_with fail
          rw [HX.out]
          refine ⟨⟨i + 1, m, by omega, by go_num, HB1.out.far (p := ⟨w.heap.size + 1, i, none⟩) (by simp) _, ?_, HM.out, HB3.out.far (p := ⟨w.heap.size + 1, i, none⟩) (by simp) _, fun h => ?_, hbel.setCell (p := ⟨w.heap.size + 1, i, none⟩) (by simp) _⟩, by simp [intOf]; omega⟩
          · have h := HB2.out.set_ i (.int .u8 ((stB1 k n b i).toNat : Int))
            rw [bytes_set, HSET.out] at h
            exact h
          · rw [show (i + 1) / 16 = i / 16 from by omega]
            exact HME.out
      · obtain rfl : i = L := by omega
        have HOB : Hid (OB w.heap.size wr (some ⟨w.heap.size + 1, 0, none⟩) i (streamS k n b)) := by
          have h := HB2.out
          have h2 := HF.out
          rw [HL.out] at h2
          rw [h2] at h
          exact h.ob (n := i) (by omega) (by rw [streamS_length, HL.out]) rfl (by omega)
        go_wp2_with fail
        go_ret2
        exact ⟨⟨some ⟨w.heap.size + 1, 0, none⟩, i, by rw [HS.out]; show _ = Ending.returned (.tuple #[.slice (some ⟨w.heap.size + 1, 0, none⟩) (streamS k n b).length i, .int .i64 0]); rw [streamS_length, HL.out]; rfl, by rw [HS.out]; exact HOB.out⟩, hbel⟩
end Go.Proofs.YtinpiodfpnbllaaGreatDoor

/- The reference's Xor. -/
namespace Go.Proofs.YtinpiodfpnbllaaGreatDoor
open Go.RowKit
set_option linter.unusedVariables false
attribute [local go_sem] run_storeCells_key

/-- Two blocks, xor. -/
def xorS (a b : List UInt8) : List UInt8 := (List.range 16).map fun j => a.getD j 0 ^^^ b.getD j 0
def xoP (a b : List UInt8) (i : Nat) : List UInt8 := (List.range 16).map fun j => if j < i then a.getD j 0 ^^^ b.getD j 0 else a.getD j 0
theorem xorS_length (a b : List UInt8) : (xorS a b).length = 16 := by simp [xorS]
theorem xoP_length (a b : List UInt8) (i : Nat) : (xoP a b i).length = 16 := by simp [xoP]
theorem xoP_zero {a : List UInt8} (b : List UInt8) (h : a.length = 16) : xoP a b 0 = a := by
  refine List.ext_getElem (by simp [xoP, h]) fun i h1 h2 => ?_
  simp [xoP, List.getD, List.getElem?_eq_getElem h2]
theorem xoP_fin (a b : List UInt8) : xoP a b 16 = xorS a b := by
  refine List.ext_getElem (by simp [xoP, xorS]) fun i h1 h2 => ?_
  have : i < 16 := by simpa [xoP] using h1
  simp [xoP, xorS, this]
theorem xoP_at (a b : List UInt8) {i : Nat} (hi : i < 16) : (xoP a b i).getD i 0 = a.getD i 0 := by
  simp [xoP, List.getD, List.getElem?_range hi]
theorem xoP_set {a b : List UInt8} {i : Nat} (hi : i < 16) : (xoP a b i).set i (a.getD i 0 ^^^ b.getD i 0) = xoP a b (i + 1) := by
  refine List.ext_getElem (by simp [xoP]) fun j h1 h2 => ?_
  simp only [xoP, List.getElem_set, List.getElem_map, List.getElem_range]
  by_cases e : i = j
  · subst e; simp
  · rw [if_neg e]
    have : (j < i) ↔ (j < i + 1) := by omega
    simp [this]

set_option maxHeartbeats 1000000 in
set_option maxRecDepth 100000 in
theorem refXor_any (a b : List UInt8) (w : World) (ha : a.length = 16) (hb : b.length = 16) : Calls Tryz.prog 125 #[.agg (cellsB a).toArray, .agg (cellsB b).toArray] w fun e w' => e = .returned (.agg (cellsB (xorS a b)).toArray) ∧ Below w.heap.size w w' := by
  have HA := Lib.hid ha
  have HB := Lib.hid hb
  have HZ := Lib.hid zero16
  clear ha hb
  go_enter Tryz.func125, Tryz.ntmps125
  go_wp2_with fail
  rw [HZ.out]
  go_loopw [5] (fun vi wr => ∃ i : Nat, i ≤ 16 ∧ vi = .int .i64 (i : Int) ∧ Hid (Blk wr w.heap.size 24 (cellsB (xoP a b i)).toArray) ∧ Hid (Blk wr (w.heap.size + 1) 24 (cellsB b).toArray) ∧ Hid (Blk wr (w.heap.size + 1 + 1) 24 (cellsB zeroK).toArray) ∧ Below w.heap.size w wr) (fun vi _ => 16 - (intOf vi).toNat)
  case atStart => exact ⟨0, by omega, rfl, by rw [xoP_zero b HA.out]; exact blk_a0 _ _ _ _ _, blk_a1 _ _ _ _ _, blk_a2 _ _ _ _ _, alloc3_bel _ _ _ _⟩
  case round =>
    obtain ⟨i, hi, rfl, HB1, HB2, HB3, hbel⟩ := hrel
    by_cases hlt : i < 16
    · have hii : (i : Int) < 16 := by omega
      have c0 := HB1.out.cell i
      rw [bytes_get _ i (by rw [xoP_length]; exact hlt), xoP_at a b hlt] at c0
      have c1 := HB2.out.cell i
      rw [bytes_get _ i (by rw [HB.out]; exact hlt)] at c1
      have f0 := HB1.out.frozen i
      have HSET := Lib.hid (xoP_set (a := a) (b := b) hlt)
      obtain ⟨x, hx⟩ : ∃ x, a.getD i 0 = x := ⟨_, rfl⟩
      obtain ⟨y, hy⟩ : ∃ y, b.getD i 0 = y := ⟨_, rfl⟩
      rw [hx, hy] at HSET
      rw [hx] at c0
      rw [hy] at c1
      have HX : Hid (bits .xor .u8 (x.toNat : Int) (y.toNat : Int) = ((x ^^^ y).toNat : Int)) := xor_u8 _ _
      clear hx hy hlt
      go_wp2_with fail
      go_region
      all_goals
        rw [HX.out]
        go_wp2_with fail
        go_roundw
      all_goals first
        | exact ⟨i + 1, by omega, by go_num, by
            have h := HB1.out.drew.set_ i (.int .u8 ((x ^^^ y).toNat : Int))
            rw [bytes_set, HSET.out] at h
            exact h, HB2.out.drew.far (p := ⟨w.heap.size, i, none⟩) (by simp) _, HB3.out.drew.far (p := ⟨w.heap.size, i, none⟩) (by simp; omega) _, hbel.drew.setCell (p := ⟨w.heap.size, i, none⟩) (by simp) _⟩
        | (simp [intOf]; omega)
    · obtain rfl : i = 16 := by omega
      have B1 : Blk wr w.heap.size 24 (cellsB (xorS a b)).toArray := by rw [← xoP_fin]; exact HB1.out
      have HL : Hid ((xorS a b).length = 16) := xorS_length a b
      obtain ⟨r, hr⟩ : ∃ r, xorS a b = r := ⟨_, rfl⟩
      rw [hr] at B1 HL
      have HRX := Lib.hid hr
      have hl : (cellsB r).length = 16 := by rw [cellsB_length, HL.out]
      have hall := all16 r
      have hr3 : (rowAt wr (w.heap.size + 1 + 1)).size = 16 := by rw [HB3.out.row]; rfl
      have hf3 := HB3.out.free
      have HR1 := Lib.hid B1
      clear hr B1
      go_wp2_with (refine wpList_load_row rfl 24 (.tmp 2) rfl w.heap.size rfl 24 (cellsB r).toArray (0, 0) _ HR1.out under_key rfl (cellsB_size _ HL.out) ?_)
      exact bodyPost_ret (results_cell_row rfl _ _ (w.heap.size + 1 + 1) _ _ (0, 0) _ rfl (HB3.out.setRow (cellsB r).toArray) under_key rfl (cellsB_size _ HL.out)) rfl ⟨by rw [HRX.out], below_setRow hbel (by omega) _⟩
end Go.Proofs.YtinpiodfpnbllaaGreatDoor
