/-
  Keys in memory: a whole row out of a block and into it, as the walk meets them.
-/
import Derived.Test.YtinpiodfpnbllaaArrEq
import Derived.Test.YtinpiodfpnbllaaPlainSpeck
import Derived.Test.YtinpiodfpnbllaaWd
import Derived.Deep.WholeRow
namespace Go.Proofs.Ytinpiodfpnbllaa
open Go.RowKit
set_option linter.unusedVariables false

/-- The cells of a block; whether they may be written. -/
def rowAt (w : World) (g : Nat) : Array Value := match w.heap[g]? with | some (.cells cs _ _) => cs | _ => #[]
def rowFree (w : World) (g : Nat) : Bool := match w.heap[g]? with | some (.cells _ _ fr) => fr == (0, 0) | _ => false
theorem rowAt_some {w : World} {g : Nat} (h : (rowAt w g).size = 16) : ∃ t fr, w.heap[g]? = some (.cells (rowAt w g) t fr) := by
  unfold rowAt at h ⊢
  split
  · rename_i cs t fr he
    exact ⟨t, fr, by rw [he]⟩
  · rename_i he
    split at h
    · rename_i cs t fr he2
      exact absurd he2 (he cs t fr)
    · simp at h
theorem rowAt_alloc_new (w : World) (cs : Array Value) (t : TypeId) : rowAt (w.alloc (.cells cs t)) w.heap.size = cs := by
  unfold rowAt; rw [heap_alloc_new]
theorem rowAt_alloc_old (w : World) (o : Obj) (g : Nat) (h : g < w.heap.size) : rowAt (w.alloc o) g = rowAt w g := by
  unfold rowAt; rw [Below.heap_alloc w o g h]
theorem rowFree_alloc_new (w : World) (cs : Array Value) (t : TypeId) : rowFree (w.alloc (.cells cs t)) w.heap.size = true := by
  unfold rowFree; rw [heap_alloc_new]; rfl
theorem rowFree_alloc_old (w : World) (o : Obj) (g : Nat) (h : g < w.heap.size) : rowFree (w.alloc o) g = rowFree w g := by
  unfold rowFree; rw [Below.heap_alloc w o g h]
theorem rowAt_below {B : Nat} {w w' : World} (h : Below B w w') {g : Nat} (hg : g < B) : rowAt w' g = rowAt w g := by unfold rowAt; rw [h.block g hg]
theorem rowFree_below {B : Nat} {w w' : World} (h : Below B w w') {g : Nat} (hg : g < B) : rowFree w' g = rowFree w g := by unfold rowFree; rw [h.block g hg]
theorem rowAt_drew (w : World) (g : Nat) : rowAt w.drew g = rowAt w g := rfl
theorem rowAt_drewN (w : World) (n g : Nat) : rowAt (w.drewN n) g = rowAt w g := rfl
theorem rowFree_drew (w : World) (g : Nat) : rowFree w.drew g = rowFree w g := rfl
theorem rowFree_drewN (w : World) (n g : Nat) : rowFree (w.drewN n) g = rowFree w g := rfl
theorem cell_row {w : World} {g j : Nat} (h : (rowAt w g).size = 16) : w.cell? ⟨g, j, none⟩ = (rowAt w g)[j]? := by
  obtain ⟨t, fr, he⟩ := rowAt_some h
  exact cell_of_row w g j _ t fr he

theorem run_loadCells_key {P : Program} (w : World) (g : Nat) (h : (rowAt w g).size = 16) : (loadCellsFrom ⟨g, 0, none⟩ 0 16 #[]).run P w = .ok (rowAt w g) w := by
  obtain ⟨t, fr, he⟩ := rowAt_some h
  have := run_loadCells_list (P := P) w ⟨g, 0, none⟩ (rowAt w g).toList (fun j v hv => by
    rw [Addr.add_lit, Nat.zero_add, cell_of_row w g j _ t fr he]
    simpa using hv)
  rw [Array.length_toList, h] at this
  simpa [loadCells] using this
theorem run_storeCells_key {P : Program} (w : World) (g : Nat) (l : List Value) (hl : l.length = 16) (h1 : l.all (·.oneCell') = true) (h : (rowAt w g).size = 16) (hf : rowFree w g = true) : (storeCells ⟨g, 0, none⟩ l 0).run P w = .ok () (w.setRow g l.toArray) := by
  obtain ⟨t, fr, he⟩ := rowAt_some h
  have hfr : fr = (0, 0) := by
    unfold rowFree at hf
    rw [he] at hf
    simpa using hf
  subst hfr
  exact run_storeCells_from (P := P) g t l 0 (rowAt w g) w he (by omega) (fun v hv => List.all_eq_true.1 h1 v hv)
theorem run_storeCells_new {P : Program} (w : World) (cs : Array Value) (t : TypeId) (l : List Value) (hl : l.length = 16) (h1 : l.all (·.oneCell') = true) (hc : cs.size = 16) : (storeCells ⟨w.heap.size, 0, none⟩ l 0).run P (w.alloc (.cells cs t)) = .ok () (w.alloc (.cells l.toArray t)) := by
  rw [run_storeCells_key _ _ l hl h1 (by rw [rowAt_alloc_new]; exact hc) (rowFree_alloc_new w cs t), World.setRow_alloc_new]
theorem setRow_alloc_new (w : World) (c c' : Array Value) (t : TypeId) : (w.alloc (.cells c t)).setRow w.heap.size c' = w.alloc (.cells c' t) := World.setRow_alloc_new w c c' t
theorem setRow_alloc_old (w : World) (o : Obj) (g : Nat) (cs : Array Value) (h : g < w.heap.size) : (w.alloc o).setRow g cs = (w.setRow g cs).alloc o := by
  simp only [World.setRow, World.alloc]
  congr 1
  apply Array.ext_getElem?
  intro i
  rw [Array.getElem?_modify, Array.getElem?_push, Array.getElem?_push, Array.getElem?_modify]
  by_cases hi : i = w.heap.size
  · subst hi
    have : ¬ g = w.heap.size := by omega
    simp [this]
  · by_cases hg : g = i
    · subst hg
      simp [hi]
    · simp [hi, hg]
/-- A whole key that was read cell by cell. -/
theorem fold16 (l : List Value) (p0 : 0 < l.length) (p1 : 1 < l.length) (p2 : 2 < l.length) (p3 : 3 < l.length) (p4 : 4 < l.length) (p5 : 5 < l.length) (p6 : 6 < l.length) (p7 : 7 < l.length) (p8 : 8 < l.length) (p9 : 9 < l.length) (p10 : 10 < l.length) (p11 : 11 < l.length) (p12 : 12 < l.length) (p13 : 13 < l.length) (p14 : 14 < l.length) (p15 : 15 < l.length) (h : l.length = 16) : (#[l[0]'p0, l[1]'p1, l[2]'p2, l[3]'p3, l[4]'p4, l[5]'p5, l[6]'p6, l[7]'p7, l[8]'p8, l[9]'p9, l[10]'p10, l[11]'p11, l[12]'p12, l[13]'p13, l[14]'p14, l[15]'p15] : Array Value) = l.toArray := by
  match l, h with
  | [_, _, _, _, _, _, _, _, _, _, _, _, _, _, _, _], _ => rfl
theorem fold16B (b : List UInt8) (h : b.length = 16) {p0 : 0 < (cellsB b).length} {p1 : 1 < (cellsB b).length} {p2 : 2 < (cellsB b).length} {p3 : 3 < (cellsB b).length} {p4 : 4 < (cellsB b).length} {p5 : 5 < (cellsB b).length} {p6 : 6 < (cellsB b).length} {p7 : 7 < (cellsB b).length} {p8 : 8 < (cellsB b).length} {p9 : 9 < (cellsB b).length} {p10 : 10 < (cellsB b).length} {p11 : 11 < (cellsB b).length} {p12 : 12 < (cellsB b).length} {p13 : 13 < (cellsB b).length} {p14 : 14 < (cellsB b).length} {p15 : 15 < (cellsB b).length} : (#[(cellsB b)[0]'p0, (cellsB b)[1]'p1, (cellsB b)[2]'p2, (cellsB b)[3]'p3, (cellsB b)[4]'p4, (cellsB b)[5]'p5, (cellsB b)[6]'p6, (cellsB b)[7]'p7, (cellsB b)[8]'p8, (cellsB b)[9]'p9, (cellsB b)[10]'p10, (cellsB b)[11]'p11, (cellsB b)[12]'p12, (cellsB b)[13]'p13, (cellsB b)[14]'p14, (cellsB b)[15]'p15] : Array Value) = (cellsB b).toArray := fold16 _ _ _ _ _ _ _ _ _ _ _ _ _ _ _ _ _ (by rw [cellsB_length, h])

/-- The key of zeros. -/
def zeroK : List UInt8 := List.replicate 16 0
theorem zeroK_length : zeroK.length = 16 := rfl
/-- Block g is just these cells, none frozen. -/
def Blk (w : World) (g : Nat) (t : TypeId) (cs : Array Value) : Prop := w.heap[g]? = some (.cells cs t (0, 0))
section
variable {w w' : World} {g : Nat} {t : TypeId} {cs : Array Value}
theorem Blk.lt (h : Blk w g t cs) : g < w.heap.size := by
  rcases Nat.lt_or_ge g w.heap.size with hlt | hge
  · exact hlt
  · unfold Blk at h; rw [Array.getElem?_eq_none hge] at h; cases h
theorem Blk.cell (h : Blk w g t cs) (i : Nat) : w.cell? ⟨g, i, none⟩ = cs[i]? := cell_of_row w g i cs t (0, 0) h
theorem Blk.frozen (h : Blk w g t cs) (i : Nat) : w.frozen? ⟨g, i, none⟩ = false := by
  unfold Blk at h
  simp [World.frozen?, h]
theorem Blk.new (w : World) (t : TypeId) (cs : Array Value) : Blk (w.alloc (.cells cs t)) w.heap.size t cs := heap_alloc_new w _
theorem Blk.drew (h : Blk w g t cs) : Blk w.drew g t cs := h
theorem Blk.drewN (h : Blk w g t cs) (n : Nat) : Blk (w.drewN n) g t cs := h
theorem Blk.alloc (h : Blk w g t cs) (o : Obj) : Blk (w.alloc o) g t cs := (Below.heap_alloc w o g h.lt).trans h
theorem Blk.set_ (h : Blk w g t cs) (i : Nat) (u : Value) : Blk (w.setCell ⟨g, i, none⟩ u) g t (cs.setIfInBounds i u) := by
  unfold Blk at h ⊢
  simp [World.setCell, Array.getElem?_modify, h]
theorem Blk.far (h : Blk w g t cs) {p : Addr} (hp : g ≠ p.block) (u : Value) : Blk (w.setCell p u) g t cs := (Below.heap_setCell w p u g hp).trans h
theorem Blk.below {B : Nat} (h : Blk w g t cs) (hb : Below B w w') (hg : g < B) : Blk w' g t cs := (hb.block g hg).trans h
theorem Blk.below' (h : Blk w g t cs) (hb : Below w.heap.size w w') : Blk w' g t cs := h.below hb h.lt
theorem Blk.row (h : Blk w g t cs) : rowAt w g = cs := by unfold rowAt; unfold Blk at h; rw [h]
theorem Blk.free (h : Blk w g t cs) : rowFree w g = true := by unfold rowFree; unfold Blk at h; rw [h]; rfl
theorem Blk.setRow (h : Blk w g t cs) (cs' : Array Value) : Blk (w.setRow g cs') g t cs' := setRow_heap w g cs cs' t (0, 0) h
end
theorem below_setRow {B : Nat} {a w : World} (h : Below B a w) {g : Nat} (hg : B ≤ g) (cs : Array Value) : Below B a (w.setRow g cs) :=
  ⟨h.os, h.tape, h.output, by simpa using h.size, fun k hk => (setRow_other w g k cs (by omega)).trans (h.block k hk)⟩
theorem blk_b0 (w : World) (cs : Array Value) (t : TypeId) (o1 : Obj) : Blk ((w.alloc (.cells cs t)).alloc o1) w.heap.size t cs := (Blk.new w t cs).alloc o1
theorem blk_b1 (w : World) (o0 : Obj) (cs : Array Value) (t : TypeId) : Blk ((w.alloc o0).alloc (.cells cs t)) (w.heap.size + 1) t cs := by
  have := Blk.new (w.alloc o0) t cs
  rwa [World.size_alloc] at this
theorem blk_a0 (w : World) (cs : Array Value) (t : TypeId) (o1 o2 : Obj) : Blk (((w.alloc (.cells cs t)).alloc o1).alloc o2) w.heap.size t cs := (blk_b0 w cs t o1).alloc o2
theorem blk_a1 (w : World) (o0 : Obj) (cs : Array Value) (t : TypeId) (o2 : Obj) : Blk (((w.alloc o0).alloc (.cells cs t)).alloc o2) (w.heap.size + 1) t cs := (blk_b1 w o0 cs t).alloc o2
theorem blk_a2 (w : World) (o0 o1 : Obj) (cs : Array Value) (t : TypeId) : Blk (((w.alloc o0).alloc o1).alloc (.cells cs t)) (w.heap.size + 1 + 1) t cs := by
  have := blk_b1 (w.alloc o0) o1 cs t
  rwa [World.size_alloc] at this
theorem alloc3_bel (w : World) (o0 o1 o2 : Obj) : Below w.heap.size w (((w.alloc o0).alloc o1).alloc o2) := (((Below.refl _ _).alloc (Nat.le_refl _) _).alloc (by simp) _).alloc (by simp; omega) _
theorem alloc2_bel (w : World) (o0 o1 : Obj) : Below w.heap.size w ((w.alloc o0).alloc o1) := ((Below.refl _ _).alloc (Nat.le_refl _) _).alloc (by simp) _
/-- A key in a block: bytes. -/
theorem bytes_get (b : List UInt8) (i : Nat) (h : i < b.length) : (cellsB b).toArray[i]? = some (.int .u8 ((b.getD i 0).toNat : Int)) := by
  simp [cellsB, List.getD, List.getElem?_eq_getElem h]
end Go.Proofs.Ytinpiodfpnbllaa
