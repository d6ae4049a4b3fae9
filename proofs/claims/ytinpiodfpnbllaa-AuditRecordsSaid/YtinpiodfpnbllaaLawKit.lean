/-
  What the law's walk over recordings needs beside.
-/
import Derived.Test.YtinpiodfpnbllaaRefRecord
import Derived.Test.YtinpiodfpnbllaaRefRekey
import Derived.Test.YtinpiodfpnbllaaRefPlay
import Derived.Test.YtinpiodfpnbllaaAuditRecord
import Derived.Test.YtinpiodfpnbllaaAuditPlay
namespace Go.Proofs.Ytinpiodfpnbllaa
open Go.RowKit
set_option linter.unusedVariables false

theorem OB.at_ {B : Nat} {w : World} {A : Option Addr} {c : Nat} {l : List UInt8} (h : OB B w A c l) {i : Nat} (hi : i < l.length) : ∃ g, A = some ⟨g, 0, none⟩ ∧ B ≤ g ∧ g < w.heap.size ∧ w.cell? ⟨g, i, none⟩ = some (.int .u8 ((l.getD i 0).toNat : Int)) ∧ w.frozen? ⟨g, i, none⟩ = false ∧
    ∀ v : UInt8, OB B (w.setCell ⟨g, i, none⟩ (.int .u8 (v.toNat : Int))) A c (l.set i v) := by
  rcases h.2 with ⟨_, h0⟩ | ⟨g, cap, cur, hv, hB, hh, hnc, hm, hs, ht⟩
  · exact absurd h0 (by omega)
  · injection hv with h1 _ h3
    subst h1 h3
    have hb : Blk w g 5 cur := hh
    have hle : l.length ≤ cur.size := by rw [hs]; omega
    have hcur : cur[i]? = (cellsB l)[i]? := by
      rw [← ht, List.getElem?_take, if_pos (by omega)]; simp
    refine ⟨g, rfl, hB, hb.lt, ?_, hb.frozen i, fun v => ⟨by simp [cellsB], .inr ⟨g, _, cur.setIfInBounds i (.int .u8 (v.toNat : Int)), by rw [List.length_set], hB, hb.set_ i _, by rw [List.length_set]; exact hnc, hm, by rw [Array.size_setIfInBounds]; exact hs, ?_⟩⟩⟩
    · rw [hb.cell i, hcur, cellsB_get l i hi]
      simp [List.getD, List.getElem?_eq_getElem hi]
    · rw [List.length_set, cellsB_set, ← ht, Array.toList_setIfInBounds, List.take_set]
theorem OB.belowB {B B' : Nat} {w w' : World} {A : Option Addr} {c : Nat} {l : List UInt8} (h : OB B w A c l) (hb : Below B' w w') (hlt : ∀ a : Addr, A = some a → a.block < B') : OB B w' A c l :=
  ⟨h.1, h.2.elim Or.inl (fun ⟨g', cap, cur, hv, hB, hh, r⟩ => Or.inr ⟨g', cap, cur, hv, hB, by rw [← hh]; injection hv with h1; exact hb.block g' (hlt _ h1), r⟩)⟩
theorem OB.lt {B : Nat} {w : World} {A : Option Addr} {c : Nat} {l : List UInt8} (h : OB B w A c l) : ∀ a : Addr, A = some a → a.block < w.heap.size := by
  intro a ha
  rcases h.2 with ⟨hv, _⟩ | ⟨g, cap, cur, hv, hB, hh, _⟩
  · injection hv with h1
    rw [h1] at ha; cases ha
  · injection hv with h1
    rw [h1] at ha
    injection ha with ha
    subst ha
    exact Blk.lt (show Blk w g _ cur from hh)
theorem run_storeCells_new33 {P : Program} (w : World) (cs : Array Value) (t : TypeId) (l : List Value) (hl : l.length = 33) (h1 : l.all (·.oneCell') = true) (hc : cs.size = 33) : (storeCells ⟨w.heap.size, 0, none⟩ l 0).run P (w.alloc (.cells cs t)) = .ok () (w.alloc (.cells l.toArray t)) := by
  rw [run_storeCells_rec _ _ l hl h1 (by rw [rowAt_alloc_new]; exact hc) (rowFree_alloc_new w cs t), World.setRow_alloc_new]
theorem xor_one (x : UInt8) : bits .xor .u8 (x.toNat : Int) 1 = ((x ^^^ 1).toNat : Int) := xor_u8 x 1
end Go.Proofs.Ytinpiodfpnbllaa
