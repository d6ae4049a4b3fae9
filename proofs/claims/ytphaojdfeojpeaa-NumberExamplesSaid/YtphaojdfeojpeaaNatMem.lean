/-
  Numbers in memory: a slice that reads as digits; a block of the call's own that is known whole.
-/
import Derived.Test.YtphaojdfeojpeaaWd
import Derived.Test.YtphaojdfeojpeaaPlainArith
import Derived.Deep.OwnRows
namespace Go.Proofs.Ytphaojdfeojpeaa
open Go.RowKit
set_option linter.unusedVariables false

/-- The slice '.slice A l.length c' reads as the digits l. -/
def NR (w : World) (A : Option Addr) (c : Nat) (l : List Nat) : Prop :=
  Dig l ∧ l.length ≤ c ∧ (c ≤ 9223372036854775807 ∧ l.length ≤ 35184372088832) ∧
    (l ≠ [] → ∃ b off, A = some ⟨b, off, none⟩ ∧ b < w.heap.size ∧ ∀ i, i < l.length → w.cell? ⟨b, off + i, none⟩ = some (.int .u32 (dg l i : Nat)))
/-- .. and it lies in memory from block B on, which may be written. -/
def NF (B : Nat) (w : World) (A : Option Addr) (c : Nat) (l : List Nat) : Prop :=
  NR w A c l ∧ (l ≠ [] → ∃ b off, A = some ⟨b, off, none⟩ ∧ B ≤ b ∧ ∀ i, i < l.length → w.frozen? ⟨b, off + i, none⟩ = false)

theorem NR.nil (w : World) : NR w none 0 [] := ⟨Dig.nil, Nat.le_refl _, ⟨by omega, by simp⟩, fun h => absurd rfl h⟩
theorem NF.nil (B : Nat) (w : World) : NF B w none 0 [] := ⟨NR.nil w, fun h => absurd rfl h⟩
theorem NR.dig {w : World} {A : Option Addr} {c : Nat} {l : List Nat} (h : NR w A c l) : Dig l := h.1
theorem NR.le {w : World} {A : Option Addr} {c : Nat} {l : List Nat} (h : NR w A c l) : l.length ≤ c := h.2.1
theorem NR.cap {w : World} {A : Option Addr} {c : Nat} {l : List Nat} (h : NR w A c l) : c ≤ 9223372036854775807 := h.2.2.1.1
theorem NR.len {w : World} {A : Option Addr} {c : Nat} {l : List Nat} (h : NR w A c l) : l.length ≤ 35184372088832 := h.2.2.1.2
theorem NR.at_ {w : World} {A : Option Addr} {c : Nat} {l : List Nat} (h : NR w A c l) {i : Nat} (hi : i < l.length) :
    ∃ b off, A = some ⟨b, off, none⟩ ∧ b < w.heap.size ∧ w.cell? ⟨b, off + i, none⟩ = some (.int .u32 (dg l i : Nat)) := by
  obtain ⟨b, off, e, hb, hc⟩ := h.2.2.2 (fun e => by rw [e] at hi; simp at hi)
  exact ⟨b, off, e, hb, hc i hi⟩
theorem NR.keep {w w' : World} {A : Option Addr} {c : Nat} {l : List Nat} (h : NR w A c l) (hs : w.heap.size ≤ w'.heap.size) (hk : ∀ p : Addr, p.block < w.heap.size → w'.cell? p = w.cell? p) : NR w' A c l :=
  ⟨h.1, h.2.1, h.2.2.1, fun hn => by
    obtain ⟨b, off, e, hb, hc⟩ := h.2.2.2 hn
    exact ⟨b, off, e, by omega, fun i hi => (hk _ hb).trans (hc i hi)⟩⟩
theorem NR.below {w w' : World} {A : Option Addr} {c : Nat} {l : List Nat} (h : NR w A c l) (hb : Below w.heap.size w w') : NR w' A c l := h.keep hb.size fun p hp => hb.cell hp
theorem NR.alloc {w : World} {A : Option Addr} {c : Nat} {l : List Nat} (h : NR w A c l) (o : Obj) : NR (w.alloc o) A c l := h.below ((Below.refl _ _).alloc (Nat.le_refl _) o)
theorem NR.drew {w : World} {A : Option Addr} {c : Nat} {l : List Nat} (h : NR w A c l) : NR w.drew A c l := h.below (Below.refl _ _).drew
theorem NR.drewN {w : World} {A : Option Addr} {c : Nat} {l : List Nat} (h : NR w A c l) (n : Nat) : NR (w.drewN n) A c l := h.below ((Below.refl _ _).trans ⟨rfl, rfl, rfl, Nat.le_refl _, fun _ _ => rfl⟩)
theorem NF.below {B : Nat} {w w' : World} {A : Option Addr} {c : Nat} {l : List Nat} (h : NF B w A c l) (hb : Below w.heap.size w w') : NF B w' A c l :=
  ⟨h.1.below hb, fun hn => by
    obtain ⟨b, off, e, hB, hf⟩ := h.2 hn
    obtain ⟨b', off', e', hb', _⟩ := h.1.2.2.2 hn
    rw [e] at e'
    injection e' with e'
    injection e' with e1 e2
    subst e1
    exact ⟨b, off, e, hB, fun i hi => by rw [hb.frozen (by exact hb')]; exact hf i hi⟩⟩
theorem NF.mono {B B' : Nat} {w : World} {A : Option Addr} {c : Nat} {l : List Nat} (h : NF B w A c l) (hB : B' ≤ B) : NF B' w A c l :=
  ⟨h.1, fun hn => by obtain ⟨b, off, e, h1, h2⟩ := h.2 hn; exact ⟨b, off, e, by omega, h2⟩⟩

/-- Where a cut 's[:n]' leads. -/
def cutA (A : Option Addr) (c : Nat) : Option Addr := if c = 0 then A else A.map (·.add 0)
theorem cutA_eq (A : Option Addr) (c : Nat) : cutA A c = A := by
  unfold cutA
  split
  · rfl
  · cases A <;> simp [Addr.add]
theorem NR.take {w : World} {A : Option Addr} {c : Nat} {l : List Nat} (h : NR w A c l) (n : Nat) : NR w A c (l.take n) :=
  ⟨h.1.take n, Nat.le_trans (List.length_take_le' _ _) h.2.1, ⟨h.2.2.1.1, Nat.le_trans (List.length_take_le' _ _) h.2.2.1.2⟩, fun hn => by
    have hl : l ≠ [] := fun e => hn (by rw [e]; simp)
    obtain ⟨b, off, e, hb, hc⟩ := h.2.2.2 hl
    refine ⟨b, off, e, hb, fun i hi => ?_⟩
    have h1 : i < n ∧ i < l.length := by rw [List.length_take] at hi; omega
    rw [dg_take h1.1]
    exact hc i h1.2⟩
theorem NF.take {B : Nat} {w : World} {A : Option Addr} {c : Nat} {l : List Nat} (h : NF B w A c l) (n : Nat) : NF B w A c (l.take n) :=
  ⟨h.1.take n, fun hn => by
    have hl : l ≠ [] := fun e => hn (by rw [e]; simp)
    obtain ⟨b, off, e, hB, hf⟩ := h.2 hl
    exact ⟨b, off, e, hB, fun i hi => hf i (by rw [List.length_take] at hi; omega)⟩⟩

theorem NR.trim {w : World} {A : Option Addr} {c : Nat} {l : List Nat} (h : NR w A c l) : NR w A c (digs (val l)) := by
  obtain ⟨n, _, hn⟩ := digs_take h.dig
  rw [hn]
  exact h.take n
theorem NF.trim {B : Nat} {w : World} {A : Option Addr} {c : Nat} {l : List Nat} (h : NF B w A c l) : NF B w A c (digs (val l)) := by
  obtain ⟨n, _, hn⟩ := digs_take h.1.dig
  rw [hn]
  exact h.take n

/-- The cells of some digits. -/
def cellsN (l : List Nat) : Array Value := (l.map fun x => Value.int .u32 (x : Nat)).toArray
/-- Block g is just these digits, none frozen. -/
def BlkN (w : World) (g : Nat) (l : List Nat) : Prop := w.heap[g]? = some (.cells (cellsN l) 85 (0, 0)) ∧ Dig l
theorem cellsN_get (l : List Nat) (i : Nat) (h : i < l.length) : (cellsN l)[i]? = some (.int .u32 (dg l i : Nat)) := by
  unfold cellsN
  simp [dg_in h, List.getElem?_eq_getElem h]
theorem BlkN.lt {w : World} {g : Nat} {l : List Nat} (h : BlkN w g l) : g < w.heap.size := by
  rcases Nat.lt_or_ge g w.heap.size with hlt | hge
  · exact hlt
  · have := h.1; rw [Array.getElem?_eq_none hge] at this; cases this
theorem BlkN.cell {w : World} {g : Nat} {l : List Nat} (h : BlkN w g l) {i : Nat} (hi : i < l.length) : w.cell? ⟨g, i, none⟩ = some (.int .u32 (dg l i : Nat)) := by
  unfold World.cell?
  simp only [h.1]
  simpa using cellsN_get l i hi
theorem BlkN.frozen {w : World} {g : Nat} {l : List Nat} (h : BlkN w g l) (i : Nat) : w.frozen? ⟨g, i, none⟩ = false := by
  have := h.1
  simp [World.frozen?, this]
theorem BlkN.set {w : World} {g : Nat} {l : List Nat} (h : BlkN w g l) (i : Nat) {x : Nat} (hx : x < 4294967296) : BlkN (w.setCell ⟨g, i, none⟩ (.int .u32 (x : Nat))) g (l.set i x) := by
  refine ⟨?_, h.2.set i hx⟩
  have h1 := h.1
  simp only [World.setCell, Array.getElem?_modify, h1]
  simp [cellsN, List.map_set]
theorem BlkN.below {B : Nat} {w w' : World} {g : Nat} {l : List Nat} (h : BlkN w g l) (hb : Below B w w') (hg : g < B) : BlkN w' g l := ⟨(hb.block g hg).trans h.1, h.2⟩
theorem BlkN.below' {w w' : World} {g : Nat} {l : List Nat} (h : BlkN w g l) (hb : Below w.heap.size w w') : BlkN w' g l := h.below hb h.lt
theorem BlkN.drew {w : World} {g : Nat} {l : List Nat} (h : BlkN w g l) : BlkN w.drew g l := h
theorem BlkN.alloc {w : World} {g : Nat} {l : List Nat} (h : BlkN w g l) (o : Obj) : BlkN (w.alloc o) g l := ⟨(Below.heap_alloc w o g h.lt).trans h.1, h.2⟩
theorem BlkN.far {w : World} {g : Nat} {l : List Nat} (h : BlkN w g l) {p : Addr} (hp : g ≠ p.block) (u : Value) : BlkN (w.setCell p u) g l := ⟨(Below.heap_setCell w p u g hp).trans h.1, h.2⟩
theorem made_cellsN (n : Nat) : madeCells #[Value.int .u32 0] n = cellsN (List.replicate n 0) := by
  apply Array.toList_inj.1
  rw [toList_madeCells_one]
  simp [cellsN]
theorem BlkN.made (w : World) (n : Nat) : BlkN (w.alloc (.cells (madeCells #[Value.int .u32 0] n) 85)) w.heap.size (List.replicate n 0) :=
  ⟨by rw [heap_alloc_new, made_cellsN], Dig.replicate n⟩
/-- The slice over the whole of such a block. -/
theorem BlkN.nf {B : Nat} {w : World} {g c : Nat} {l : List Nat} (h : BlkN w g l) (hB : B ≤ g) (hc : l.length ≤ c) (hm : c ≤ 9223372036854775807) (hl : l.length ≤ 35184372088832) : NF B w (some ⟨g, 0, none⟩) c l :=
  ⟨⟨h.2, hc, ⟨hm, hl⟩, fun _ => ⟨g, 0, rfl, h.lt, fun i hi => by rw [Nat.zero_add]; exact h.cell hi⟩⟩, fun _ => ⟨g, 0, rfl, hB, fun i _ => h.frozen _⟩⟩

theorem u32_info : (Try.prog.info? 85).map (fun i => (i.zero, i.size, i.bytes)) = some (some (.int .u32 0), 1, 4) := by kernel_rfl
/-- make: a block of zeros, the world a variable. -/
theorem wpList_make_nat (w : World) {ops : Array Oper} {rest : List Oper} {o : Oper} {a : Act} {Q : Exit → Act → World → Prop} (hg : o.guard = none) (l c : Operand) (hop : o.op = Op.makeSlice 41 l c)
    (n : Nat) {x y : Int} (hl : a.eval l = .int .i64 x) (hc : a.eval c = .int .i64 y) (hx : x = n) (hy : y = n) (hn : n ≤ 70368744177664)
    (hK : ∀ w', BlkN w' w.heap.size (List.replicate n 0) → Below w.heap.size w w' → w.heap.size < w'.heap.size → wpList Try.prog ops Q rest (a.put o.dst (.slice (some ⟨w.heap.size, 0, none⟩) n n)) w') : wpList Try.prog ops Q (o :: rest) a w := by
  obtain ⟨i0, hi, hz0, hz1, hz2⟩ := info_parts u32_info
  subst hx hy
  exact wpList_make_row w hg l c 41 hop 85 i0 (.int .u32 0) Try.underlying41 hi hz0 hz1 rfl .i64 .i64 n hl hc (by rw [hz2]; omega) (by omega) (hK _ (BlkN.made w n) ((Below.refl _ _).alloc (Nat.le_refl _) _) (by simp))

/-- Below behind a store into a block from B on. -/
theorem int_le_of {a b : Nat} (h : a ≤ b) : (a : Int) ≤ b := Int.ofNat_le.2 h
end Go.Proofs.Ytphaojdfeojpeaa
