/-
  Lemmas and contracts, joined.
-/
import Derived.Test.YtchnaimpmegbkaaGreatDoorRows
import Derived.WalkKit
import Derived.WalkSpells
import Derived.WalkLawsBesides
import Derived.Lib.Hide
import Derived.Deep.QuietTactic
import Derived.BigQuiet
import Derived.Maps.AppendAt
import Derived.Deep.OwnRows
import Derived.ProofKit
import Derived.OpenShut
import Derived.ShutString
import Derived.ChangeOld
import Derived.Below
import Derived.Lib.SmallJoins
import Derived.SizedLaws
import Derived.Deep.Slices
import Derived.Stop.BytesEq
import Derived.Deep.WholeRow
set_option linter.unusedSimpArgs false
set_option linter.unusedVariables false
set_option linter.unnecessarySimpa false
/- A region that draws its order, whose operations only read and whose callees may make memory but hand back plain values: one walk of the text's order serves every order, in the class of the worlds in which nothing that was there has turned. -/
namespace Go.Proofs.YtchnaimpmegbkaaGreatDoor
open Go.RowKit
set_option linter.unusedVariables false

/-- A world in which nothing of w0 has turned. -/
structure Wd (w0 : World) where
  w : World
  h : Below w0.heap.size w0 w

instance (w0 : World) : Nonempty (Wd w0) := ⟨⟨w0, Below.refl _ _⟩⟩

theorem Wd.call {P : Program} {f : FuncId} {args : Array Value} {w0 : World} {v : Value} (x : Wd w0)
    (h : Calls P f args x.w fun e w' => e = .returned v ∧ Below x.w.heap.size x.w w') : Calls P f args x.w fun e w'' => e = .returned v ∧ ∃ y : Wd w0, w'' = y.w :=
  h.mono fun _ w' ⟨he, hb⟩ => ⟨he, ⟨w', x.h.trans (hb.mono x.h.size)⟩, rfl⟩
theorem wp_region_wd {P : Program} {id : Nat} {Q : Exit → Act → World → Prop} {a : Act} {w : World} {l : List Oper} (hm : P.follows .mixedOrders = true) (hB : Region.lexB .any l.toArray = true)
    (h : wpQuiet P l.toArray (fun w' => ∃ x : Wd w, w' = x.w) (fun a' => ∀ w', (∃ x : Wd w, w' = x.w) → Q .normal a' w') l a) : (Code.region id l.toArray true).wp P Q a w :=
  wp_region_quiet (C := fun w' => ∃ x : Wd w, w' = x.w) hm hB ⟨⟨_, (Below.refl _ _).drew⟩, rfl⟩ (by simpa using h)
end Go.Proofs.YtchnaimpmegbkaaGreatDoor

/- append onto a row of the call's own, whatever the source: the value that comes out is written out as a slice. -/
namespace Go.Proofs.YtchnaimpmegbkaaGreatDoor
open Go.RowKit
set_option linter.unusedVariables false

/-- What append takes: m elements of 'size' cells each. -/
def Src (w : World) (size : Nat) (X : Option Addr) (m : Nat) (news : List Value) : Prop :=
  news.length = m * size ∧ (m = 0 ∨ ∃ a, X = some a ∧ ∀ j u, news[j]? = some u → w.cell? (a.add j) = some u)
theorem Src.nil (w : World) (size : Nat) (X : Option Addr) : Src w size X 0 [] := ⟨by simp, .inl rfl⟩
theorem Src.one (w : World) (v : Value) (e : TypeId) : Src (w.alloc (.cells #[v] e)) 1 (some ⟨w.heap.size, 0, none⟩) 1 [v] :=
  ⟨by simp, .inr ⟨_, rfl, cell_one_new _ _ _⟩⟩

theorem run_append_empty {P : Program} (w : World) (base : Nat) (t ty e : TypeId) (i : TypeInfo) (size : Nat) (ht : P.underlying t = some (.slice e)) (hi : P.info? e = some i)
    (A : Option Addr) (n c : Nat) (xs : List Value) (hown : w.ownsRow base e size (.slice A n c) n xs) (d : Nat) : (Builtin.append_ #[t, t] ty #[.slice A n c, .slice none 0 d]).run P w = .ok (.slice A n c) w := by
  rcases hown.2 with ⟨hv, rfl⟩ | ⟨g, cap, cur, hv, _, _, hnc, _⟩
  · injection hv with h1 h2 h3
    subst h1 h3
    simp [Builtin.append_, run_underlying ht, sizeOf, typeInfo, hi, Builtin.lenOf, Builtin.firstCells]
  · injection hv with h1 h2 h3
    subst h1 h3
    simp [Builtin.append_, run_underlying ht, sizeOf, typeInfo, hi, Builtin.lenOf, Builtin.firstCells, hnc, storeCells]

theorem run_append_src {P : Program} (w : World) (base : Nat) (t ty e : TypeId) (i : TypeInfo) (z : Value) (size bytes : Nat) (ht : P.underlying t = some (.slice e)) (hi : P.info? e = some i) (hz : i.zero = some z)
    (hsize : i.size = size) (hby : i.bytes = bytes) (hzs : z.cells.size = size) (hsz : 0 < size)
    (A : Option Addr) (n c : Nat) (xs : List Value) (hown : w.ownsRow base e size (.slice A n c) n xs)
    (X : Option Addr) (m d : Nat) (news : List Value) (hsrc : Src w size X m news) (h1 : ∀ u ∈ news, u.oneCell' = true)
    (h63 : n + m ≤ maxLen) (hbytes : (n + m) * bytes ≤ 140737488355328) (hbase : base ≤ w.heap.size) :
    ∃ A' c' w', (Builtin.append_ #[t, t] ty #[.slice A n c, .slice X m d]).run P w = .ok (.slice A' (n + m) c') w' ∧ w'.ownsRow base e size (.slice A' (n + m) c') (n + m) (xs ++ news) ∧ w.grownBy w' (Value.ownBlock (.slice A n c)) ∧
      (Value.ownBlock (.slice A' (n + m) c') = Value.ownBlock (.slice A n c) ∨ Value.ownBlock (.slice A' (n + m) c') = some w.heap.size) := by
  obtain ⟨hl, hs⟩ := hsrc
  cases X with
  | none =>
    have hm : m = 0 := by
      rcases hs with h | ⟨a, h, _⟩
      · exact h
      · cases h
    subst hm
    have hn : news = [] := List.eq_nil_of_length_eq_zero (by simpa using hl)
    subst hn
    exact ⟨A, c, w, run_append_empty w base t ty e i size ht hi A n c xs hown d, by simpa using hown, World.grownBy.refl w _, .inl rfl⟩
  | some a =>
    have hnews : ∀ j u, news[j]? = some u → w.cell? (a.add j) = some u := by
      rcases hs with h | ⟨a', h, hc⟩
      · subst h
        have hn : news = [] := List.eq_nil_of_length_eq_zero (by simpa using hl)
        subst hn
        intro j u hu
        simp at hu
      · injection h with h
        subst h
        exact hc
    obtain ⟨v', w', hrun, h2, h3, h4, h5⟩ := run_append_own_at (P := P) w base t ty e i z size bytes ht hi hz hsize hby hzs hsz (.slice A n c) n xs hown a m d news hl hnews h1 h63 hbytes hbase
    have hform : ∃ A' c', v' = .slice A' (n + m) c' := by
      rcases h2.2 with ⟨rfl, h0⟩ | ⟨g, cap, cur, rfl, _⟩
      · exact ⟨none, 0, by rw [h0]⟩
      · exact ⟨_, _, rfl⟩
    obtain ⟨A', c', rfl⟩ := hform
    exact ⟨A', c', w', hrun, h2, h3, h5⟩

theorem wpList_append_src {P : Program} (w : World) {ops : Array Oper} {rest : List Oper} {o : Oper} {a : Act} {Q : Exit → Act → World → Prop} (hgd : o.guard = none) (s x : Operand) (t : TypeId)
    (ho : o.op = .call { callee := .builtin .append, args := #[s, x], argTypes := #[t, t] })
    (base : Nat) (e : TypeId) (i : TypeInfo) (z : Value) (size bytes : Nat) (ht : P.underlying t = some (.slice e)) (hi : P.info? e = some i) (hz : i.zero = some z)
    (hsize : i.size = size) (hby : i.bytes = bytes) (hzs : z.cells.size = size) (hsz : 0 < size)
    (A : Option Addr) (n c : Nat) (xs : List Value) (hs : a.eval s = .slice A n c) (hown : w.ownsRow base e size (.slice A n c) n xs)
    (X : Option Addr) (m d : Nat) (news : List Value) (hx : a.eval x = .slice X m d) (hsrc : Src w size X m news) (h1 : ∀ u ∈ news, u.oneCell' = true)
    (h63 : n + m ≤ maxLen) (hbytes : (n + m) * bytes ≤ 140737488355328) (hbase : base ≤ w.heap.size)
    (h : ∀ A' c' w', w'.ownsRow base e size (.slice A' (n + m) c') (n + m) (xs ++ news) → w.grownBy w' (Value.ownBlock (.slice A n c)) →
      (Value.ownBlock (.slice A' (n + m) c') = Value.ownBlock (.slice A n c) ∨ Value.ownBlock (.slice A' (n + m) c') = some w.heap.size) → wpList P ops Q rest (a.put o.dst (.slice A' (n + m) c')) w') : wpList P ops Q (o :: rest) a w := by
  refine wpList_plain hgd fun K hK => ?_
  obtain ⟨A', c', w', hrun, h2, h3, h4⟩ := run_append_src (P := P) w base t o.type e i z size bytes ht hi hz hsize hby hzs hsz A n c xs hown X m d news hsrc h1 h63 hbytes hbase
  unfold Oper.wp execOp
  simp only [ho, resolve, invoke, builtin, Sem.run_bind, Sem.run_pure, Result.andThen_ok, List.map_toArray, List.map_cons, List.map_nil, hs, hx, hrun]
  exact hK _ _ (h A' c' w' h2 h3 h4)

theorem grown_below {B : Nat} {a w w' : World} {base : Nat} {e : TypeId} {size n : Nat} {v : Value} {xs : List Value} (h : Below B a w) (hown : w.ownsRow base e size v n xs) (hg : w.grownBy w' v.ownBlock) (hB : B ≤ w.heap.size) (hb : B ≤ base) : Below B a w' :=
  h.grown hg hB fun k hk => by have := (hown.lt k hk).1; omega
theorem ownsRow_below {w w' : World} {base : Nat} {e : TypeId} {size n : Nat} {v : Value} {xs : List Value} (h : w.ownsRow base e size v n xs) (hb : Below w.heap.size w w') : w'.ownsRow base e size v n xs := by
  refine h.kept (row := none) ⟨hb.os, hb.tape, hb.output, hb.size, fun k hk _ => hb.block k hk⟩ ?_
  cases v.ownBlock
  · exact .inl rfl
  · exact .inr (by simp)
end Go.Proofs.YtchnaimpmegbkaaGreatDoor

/- Slices in memory, whatever their elements: what is read of them, and what the call itself owns of them. -/
namespace Go.Proofs.YtchnaimpmegbkaaGreatDoor
open Go.RowKit
set_option linter.unusedVariables false

/-- The slice '.slice A n c' has n elements of s cells each, and these are the cells. -/
def Rd (w : World) (s : Nat) (A : Option Addr) (c n : Nat) (xs : List Value) : Prop :=
  (xs.length = n * s ∧ n ≤ c ∧ c ≤ 9223372036854775807 ∧ n ≤ 140737488351232) ∧
    (n ≠ 0 → ∃ b off, A = some ⟨b, off, none⟩ ∧ b < w.heap.size ∧ ∀ j v, xs[j]? = some v → w.cell? ⟨b, off + j, none⟩ = some v)

section
variable {w w' : World} {s c n : Nat} {A : Option Addr} {xs : List Value}
theorem Rd.nil (w : World) (s : Nat) : Rd w s none 0 0 [] := ⟨⟨by simp, Nat.le_refl _, by omega, by omega⟩, fun h => absurd rfl h⟩
theorem Rd.size (h : Rd w s A c n xs) : xs.length = n * s := h.1.1
theorem Rd.le (h : Rd w s A c n xs) : n ≤ c := h.1.2.1
theorem Rd.cap (h : Rd w s A c n xs) : c ≤ 9223372036854775807 := h.1.2.2.1
theorem Rd.len (h : Rd w s A c n xs) : n ≤ 140737488351232 := h.1.2.2.2
theorem Rd.keep (h : Rd w s A c n xs) (hs : w.heap.size ≤ w'.heap.size) (hk : ∀ p : Addr, p.block < w.heap.size → w'.cell? p = w.cell? p) : Rd w' s A c n xs :=
  ⟨h.1, fun hn => by
    obtain ⟨b, off, e, hb, hc⟩ := h.2 hn
    exact ⟨b, off, e, by omega, fun j v hv => (hk _ hb).trans (hc j v hv)⟩⟩
theorem Rd.below (h : Rd w s A c n xs) (hb : Below w.heap.size w w') : Rd w' s A c n xs := h.keep hb.size fun p hp => hb.cell hp
theorem Rd.alloc (h : Rd w s A c n xs) (o : Obj) : Rd (w.alloc o) s A c n xs := h.below ((Below.refl _ _).alloc (Nat.le_refl _) o)
theorem Rd.drew (h : Rd w s A c n xs) : Rd w.drew s A c n xs := h.below (Below.refl _ _).drew
theorem Rd.drewN (h : Rd w s A c n xs) (k : Nat) : Rd (w.drewN k) s A c n xs := h.below ((Below.refl _ _).trans ⟨rfl, rfl, rfl, Nat.le_refl _, fun _ _ => rfl⟩)
/-- One cell of one-cell elements. -/
theorem Rd.at1 (h : Rd w 1 A c n xs) {i : Nat} (hi : i < n) : ∃ b off, A = some ⟨b, off, none⟩ ∧ b < w.heap.size ∧ ∃ v, xs[i]? = some v ∧ w.cell? ⟨b, off + i, none⟩ = some v := by
  obtain ⟨b, off, e, hb, hc⟩ := h.2 (by omega)
  have hl := h.size
  exact ⟨b, off, e, hb, xs[i]'(by omega), List.getElem?_eq_getElem _, hc i _ (List.getElem?_eq_getElem _)⟩
theorem Rd.src (h : Rd w s A c n xs) : Src w s A n xs := by
  refine ⟨h.size, ?_⟩
  by_cases hn : n = 0
  · exact .inl hn
  · obtain ⟨b, off, e, hb, hc⟩ := h.2 hn
    refine .inr ⟨_, e, fun j u hu => ?_⟩
    rw [Addr.add_lit]
    exact hc j u hu
/-- What the call owns it can read. -/
theorem Rd.of_own {B : Nat} {t : TypeId} (h : w.ownsRow B t s (.slice A n c) n xs) (hn : n ≤ 140737488351232) : Rd w s A c n xs := by
  have hl := h.1
  rcases h.2 with ⟨hv, h0⟩ | ⟨g, cap, cur, hv, hB, hh, hnc, hm, hs, ht⟩
  · injection hv with h1 h2 h3
    subst h1 h3 h0
    have : xs = [] := List.eq_nil_of_length_eq_zero (by simpa using hl)
    subst this
    exact Rd.nil w s
  · injection hv with h1 h2 h3
    subst h1 h3
    have hlt : g < w.heap.size := by
      rcases Nat.lt_or_ge g w.heap.size with hlt | hge
      · exact hlt
      · rw [Array.getElem?_eq_none hge] at hh; cases hh
    refine ⟨⟨hl, hnc, by simpa [maxLen] using hm, hn⟩, fun _ => ⟨g, 0, rfl, hlt, fun j v hv => ?_⟩⟩
    have hj : j < xs.length := by
      rcases Nat.lt_or_ge j xs.length with h' | h'
      · exact h'
      · rw [List.getElem?_eq_none h'] at hv; cases hv
    have := h.cellAt j (by omega)
    rw [Nat.zero_add, this, hv]
end

theorem own_ne {w : World} {B B' : Nat} {t t' : TypeId} {s s' n n' : Nat} {v v' : Value} {xs xs' : List Value} (h : w.ownsRow B t s v n xs) (h' : w.ownsRow B' t' s' v' n' xs') (hne : t ≠ t') : v.ownBlock = none ∨ v.ownBlock ≠ v'.ownBlock := by
  rcases h.2 with ⟨rfl, _⟩ | ⟨g, cap, cur, rfl, _, hh, _⟩
  · exact .inl rfl
  · rcases h'.2 with ⟨rfl, _⟩ | ⟨g', cap', cur', rfl, _, hh', _⟩
    · exact .inr (by simp [Value.ownBlock])
    · refine .inr fun e => hne ?_
      have : g = g' := by simpa [Value.ownBlock] using e
      subst this
      rw [hh] at hh'
      injection hh' with hh'
      injection hh' with _ ht
/-- A row of another element type stays as it is when a row grows. -/
theorem own_kept {w w' : World} {B B' : Nat} {t t' : TypeId} {s s' n n' : Nat} {v v' : Value} {xs xs' : List Value} (h : w.ownsRow B t s v n xs) (h' : w.ownsRow B' t' s' v' n' xs') (hne : t ≠ t') (hg : w.grownBy w' v'.ownBlock) : w'.ownsRow B t s v n xs :=
  h.kept hg (own_ne h h' hne)

/-- What is read below a base stays when a row from the base on grows. -/
theorem Rd.grown {w w' : World} {B B' : Nat} {t : TypeId} {s s' c n n' : Nat} {A : Option Addr} {v : Value} {xs ys : List Value} (h : Rd w s A c n xs) (hb : n ≠ 0 → ∀ a, A = some a → a.block < B) (hown : w.ownsRow B t s' v n' ys) (hg : w.grownBy w' v.ownBlock) : Rd w' s A c n xs :=
  ⟨h.1, fun hn => by
    obtain ⟨b, off, e, hlt, hc⟩ := h.2 hn
    have hB := hb hn _ e
    refine ⟨b, off, e, Nat.lt_of_lt_of_le hlt hg.size, fun j u hu => ?_⟩
    refine (World.cell?_of_block (hg.block b hlt ?_)).trans (hc j u hu)
    intro e3
    have := (hown.lt b (by first | exact e3 | exact e3.symm)).1
    simp only at hB
    omega⟩

/-- Bytes. -/
def cellsB (l : List UInt8) : List Value := l.map fun x => .int .u8 (x.toNat : Int)
theorem cellsB_length (l : List UInt8) : (cellsB l).length = l.length := by simp [cellsB]
theorem cellsB_get (l : List UInt8) (i : Nat) (h : i < l.length) : (cellsB l)[i]? = some (.int .u8 (l[i].toNat : Int)) := by simp [cellsB, List.getElem?_eq_getElem h]
theorem cellsB_append (a b : List UInt8) : cellsB (a ++ b) = cellsB a ++ cellsB b := by simp [cellsB]
theorem cellsB_set (l : List UInt8) (i : Nat) (x : UInt8) : cellsB (l.set i x) = (cellsB l).set i (.int .u8 (x.toNat : Int)) := by simp [cellsB, List.map_set]
theorem cellsB_one (l : List UInt8) : ∀ u ∈ cellsB l, u.oneCell' = true := by
  intro u hu
  obtain ⟨x, _, rfl⟩ := List.mem_map.1 hu
  rfl
/-- The byte with an index. -/
def bt (l : List UInt8) (i : Nat) : Nat := (l.getD i 0).toNat
theorem bt_in {l : List UInt8} {i : Nat} (h : i < l.length) : bt l i = l[i].toNat := by unfold bt; simp [List.getD, List.getElem?_eq_getElem h]
theorem bt_lt (l : List UInt8) (i : Nat) : bt l i < 256 := UInt8.toNat_lt _
theorem bt_le (l : List UInt8) (i : Nat) : (bt l i : Int) ≤ 255 := by have := bt_lt l i; omega
/-- A slice that reads as bytes. -/
def BR (w : World) (A : Option Addr) (c : Nat) (l : List UInt8) : Prop := Rd w 1 A c l.length (cellsB l)
section
variable {w w' : World} {c : Nat} {A : Option Addr} {l : List UInt8}
theorem BR.nil (w : World) : BR w none 0 [] := Rd.nil w 1
theorem BR.below (h : BR w A c l) (hb : Below w.heap.size w w') : BR w' A c l := Rd.below h hb
theorem BR.len (h : BR w A c l) : l.length ≤ 140737488351232 := Rd.len h
theorem BR.at_ (h : BR w A c l) {i : Nat} (hi : i < l.length) : ∃ b off, A = some ⟨b, off, none⟩ ∧ b < w.heap.size ∧ w.cell? ⟨b, off + i, none⟩ = some (.int .u8 (bt l i : Int)) := by
  obtain ⟨b, off, e, hb, v, hv, hc⟩ := Rd.at1 h hi
  refine ⟨b, off, e, hb, ?_⟩
  rw [hc, bt_in hi, ← cellsB_get l i hi, hv]
end
/-- The row of bytes that the call owns. -/
def OB (B : Nat) (w : World) (A : Option Addr) (c : Nat) (l : List UInt8) : Prop := w.ownsRow B 5 1 (.slice A l.length c) l.length (cellsB l)
/-- Rows of bytes. -/
structure BRow where
  A : Option Addr
  c : Nat
  l : List UInt8
def BRow.v (r : BRow) : Value := .slice r.A r.l.length r.c
def RR (w : World) (A : Option Addr) (c : Nat) (rs : List BRow) : Prop := Rd w 1 A c rs.length (rs.map BRow.v) ∧ ∀ r ∈ rs, BR w r.A r.c r.l
instance : Inhabited BRow := ⟨⟨none, 0, []⟩⟩
theorem below_drewN {B : Nat} {a w : World} (h : Below B a w) (n : Nat) : Below B a (w.drewN n) := ⟨h.os, h.tape, h.output, h.size, h.block⟩
theorem alloc_bel (w : World) (o : Obj) : Below w.heap.size w (w.alloc o) := (Below.refl _ _).alloc (Nat.le_refl _) o
theorem quiet_left' {P : Program} {f : FuncId} {args : Array Value} {w : World} {n : Nat} {v : Value}
    (h : Calls P f args (w.drewN n) fun e w' => e = .returned v ∧ w.drewN n = w') : Calls P f args (w.drewN n) fun e w'' => e = .returned v ∧ ∃ m, w'' = w.drewN m :=
  h.mono fun _ _ ⟨he, hm⟩ => ⟨he, n, hm.symm⟩
theorem BR.drewN {w : World} {A : Option Addr} {c : Nat} {l : List UInt8} (h : BR w A c l) (n : Nat) : BR (w.drewN n) A c l := Rd.drewN h n
end Go.Proofs.YtchnaimpmegbkaaGreatDoor

/- Symbols: words and copies, in the program and in the reference. -/
namespace Go.Proofs.YtchnaimpmegbkaaGreatDoor
open Go.RowKit
set_option linter.unusedVariables false

/-- All symbols are at most m. -/
def symB (l : List UInt8) (m : Nat) : Bool := l.all fun c => decide (c.toNat ≤ m)
theorem symB_iff {l : List UInt8} {m : Nat} : symB l m = true ↔ ∀ i, i < l.length → bt l i ≤ m := by
  unfold symB
  rw [List.all_eq_true]
  constructor
  · intro h i hi
    rw [bt_in hi]
    simpa using h _ (List.getElem_mem hi)
  · intro h c hc
    obtain ⟨i, hi, rfl⟩ := List.getElem_of_mem hc
    have := h i hi
    rw [bt_in hi] at this
    simpa using this
theorem symB_no {l : List UInt8} {m i : Nat} (hi : i < l.length) (h : m < bt l i) : symB l m = false := by
  cases hs : symB l m
  · rfl
  · have := symB_iff.1 hs i hi
    omega
/-- A word, a copy of n places. -/
def wordB (l : List UInt8) (n : Nat) : Bool := decide (l.length = n) && symB l 1
def copyB (l : List UInt8) (n : Nat) : Bool := decide (l.length = n) && symB l 2

theorem ret_int' {k : IntKind} {a b : Int} (h : a = b) : Ending.returned (.int k a) = .returned (.int k b) := by rw [h]
theorem ret_bool' {a b : Bool} (h : a = b) : Ending.returned (.bool a) = .returned (.bool b) := by rw [h]
set_option maxHeartbeats 400000 in
theorem symbols_any (A : Option Addr) (c : Nat) (l : List UInt8) (m : Nat) (w : World) {n : Nat} (hn : l.length = n) (h : BR w A c l) (hm : m ≤ 255) :
    Calls Tryz.prog 25 #[.slice A n c, .int .u8 (m : Int)] w fun e w' => e = .returned (.bool (symB l m)) ∧ w = w' := by
  have hlen : (n : Int) ≤ 140737488351232 := by have := h.len; omega
  have HN := Lib.hid hn
  have H := Lib.hid h
  clear hn h
  go_enter Tryz.func25, Tryz.ntmps25
  go_wp2_with fail
  go_loop [5] (fun vk => ∃ k : Nat, k ≤ n ∧ vk = .int .i64 k ∧ Hid (∀ j, j < k → bt l j ≤ m)) (fun vk => n - (intOf vk).toNat)
  case atStart => exact ⟨0, by omega, rfl, fun j hj => absurd hj (by omega)⟩
  case round =>
    obtain ⟨k, hk, rfl, HK⟩ := hrel
    by_cases hkn : k < n
    · obtain ⟨b, off, rfl, hb, hc⟩ := H.out.at_ (i := k) (by have := HN.out; omega)
      have hx := bt_le l k
      by_cases hle : bt l k ≤ m
      · have HK2 : Hid (∀ j, j < k + 1 → bt l j ≤ m) := fun j hj => by
          rcases Nat.lt_or_ge j k with h' | h'
          · exact HK.out j h'
          · rw [show j = k from by omega]; exact hle
        have t1 : decide ((m : Int) < (bt l k : Int)) = false := by simp; omega
        have t1' : decide (m < bt l k) = false := by simp; omega
        clear hle
        go_wp2_with fail
        go_round
        case rel => exact ⟨k + 1, by omega, by go_num, HK2⟩
        case measure => simp [intOf]; omega
      · have HF : Hid (symB l m = false) := symB_no (i := k) (by have := HN.out; omega) (by omega)
        have t1 : decide ((m : Int) < (bt l k : Int)) = true := by simp; omega
        have t1' : decide (m < bt l k) = true := by simp; omega
        clear hle
        go_wp2_with fail
        go_ret
        exact ⟨ret_bool' HF.out.symm, rfl⟩
    · have HT : Hid (symB l m = true) := symB_iff.2 fun i hi => HK.out i (by have := HN.out; omega)
      go_wp2_with fail
      go_ret
      exact ⟨ret_bool' HT.out.symm, rfl⟩

set_option maxHeartbeats 400000 in
theorem refIsWord_any (A : Option Addr) (c : Nat) (l : List UInt8) (m : Nat) (w : World) {n : Nat} (hn : l.length = n) (h : BR w A c l) (hm : m ≤ 140737488351232) :
    Calls Tryz.prog 7 #[.slice A n c, .int .i64 (m : Int)] w fun e w' => e = .returned (.bool (wordB l m)) ∧ w = w' := by
  have hlen : (n : Int) ≤ 140737488351232 := by have := h.len; omega
  have HN := Lib.hid hn
  have H := Lib.hid h
  by_cases e : n = m
  · have HS : Hid (wordB l m = symB l 1) := by unfold Hid wordB; rw [hn, e]; simp
    have t1 : ((n : Int) == (m : Int)) = true := by simp; omega
    have t2 : (n == m) = true := by simp; omega
    clear hn h e
    go_enter Tryz.func7, Tryz.ntmps7
    go_wp2_with (go_at_call 25; refine (symbols_any A c l 1 _ HN.out H.out (by omega)).mono ?_; rintro e w' ⟨rfl, rfl⟩)
    go_ret
    exact ⟨ret_bool' HS.out.symm, rfl⟩
  · have HS : Hid (wordB l m = false) := by unfold Hid wordB; rw [hn]; simp [e]
    have t1 : ((n : Int) == (m : Int)) = false := by simp; omega
    have t2 : (n == m) = false := by simp; omega
    clear hn h e
    go_enter Tryz.func7, Tryz.ntmps7
    go_wp2_with fail
    go_ret
    exact ⟨ret_bool' HS.out.symm, rfl⟩
set_option maxHeartbeats 400000 in
theorem refIsCopy_any (A : Option Addr) (c : Nat) (l : List UInt8) (m : Nat) (w : World) {n : Nat} (hn : l.length = n) (h : BR w A c l) (hm : m ≤ 140737488351232) :
    Calls Tryz.prog 8 #[.slice A n c, .int .i64 (m : Int)] w fun e w' => e = .returned (.bool (copyB l m)) ∧ w = w' := by
  have hlen : (n : Int) ≤ 140737488351232 := by have := h.len; omega
  have HN := Lib.hid hn
  have H := Lib.hid h
  by_cases e : n = m
  · have HS : Hid (copyB l m = symB l 2) := by unfold Hid copyB; rw [hn, e]; simp
    have t1 : ((n : Int) == (m : Int)) = true := by simp; omega
    have t2 : (n == m) = true := by simp; omega
    clear hn h e
    go_enter Tryz.func8, Tryz.ntmps8
    go_wp2_with (go_at_call 25; refine (symbols_any A c l 2 _ HN.out H.out (by omega)).mono ?_; rintro e w' ⟨rfl, rfl⟩)
    go_ret
    exact ⟨ret_bool' HS.out.symm, rfl⟩
  · have HS : Hid (copyB l m = false) := by unfold Hid copyB; rw [hn]; simp [e]
    have t1 : ((n : Int) == (m : Int)) = false := by simp; omega
    have t2 : (n == m) = false := by simp; omega
    clear hn h e
    go_enter Tryz.func8, Tryz.ntmps8
    go_wp2_with fail
    go_ret
    exact ⟨ret_bool' HS.out.symm, rfl⟩

/-- How many symbols are v, where whatever is above 2 counts as 3. -/
def cn (l : List UInt8) (v : Nat) : Nat := l.countP fun c => decide (min c.toNat 3 = v)
def cntV (l : List UInt8) : Array Value := #[.int .i64 (cn l 0), .int .i64 (cn l 1), .int .i64 (cn l 2), .int .i64 (cn l 3)]
theorem cn_cons (a : UInt8) (l : List UInt8) (v : Nat) : cn (a :: l) v = cn l v + if min a.toNat 3 = v then 1 else 0 := by simp [cn, List.countP_cons]
theorem cn_snoc (a : UInt8) (l : List UInt8) (v : Nat) : cn (l ++ [a]) v = cn l v + if min a.toNat 3 = v then 1 else 0 := by simp [cn, List.countP_append, List.countP_cons]
theorem cn_sum (l : List UInt8) : cn l 0 + cn l 1 + cn l 2 + cn l 3 = l.length := by
  induction l with
  | nil => rfl
  | cons a l ih =>
    rw [cn_cons, cn_cons, cn_cons, cn_cons, List.length_cons]
    have h : min a.toNat 3 = 0 ∨ min a.toNat 3 = 1 ∨ min a.toNat 3 = 2 ∨ min a.toNat 3 = 3 := by omega
    rcases h with h | h | h | h <;> rw [h] <;> simp <;> omega
theorem cn_take_succ {l : List UInt8} {k v : Nat} (h : k < l.length) : cn (l.take (k + 1)) v = cn (l.take k) v + if min (bt l k) 3 = v then 1 else 0 := by
  rw [List.take_succ_eq_append_getElem h, bt_in h, cn_snoc]
theorem cn_le (l : List UInt8) (v : Nat) : cn l v ≤ l.length := List.countP_le_length
theorem word_cn (l : List UInt8) (n : Nat) : wordB l n = true ↔ cn l 1 + cn l 0 = n ∧ cn l 2 = 0 ∧ cn l 3 = 0 := by
  unfold wordB symB
  have hs := cn_sum l
  have h23 : l.all (fun c => decide (c.toNat ≤ 1)) = true ↔ cn l 2 = 0 ∧ cn l 3 = 0 := by
    simp only [cn, List.countP_eq_zero, List.all_eq_true, decide_eq_true_eq]
    constructor
    · intro h; exact ⟨fun a ha => by have := h a ha; omega, fun a ha => by have := h a ha; omega⟩
    · rintro ⟨h1, h2⟩ a ha; have := h1 a ha; have := h2 a ha; omega
  rw [Bool.and_eq_true, h23, decide_eq_true_eq]
  omega
theorem copy_cn (l : List UInt8) (n : Nat) : copyB l n = true ↔ l.length = n ∧ cn l 3 = 0 := by
  unfold copyB symB
  have h3 : l.all (fun c => decide (c.toNat ≤ 2)) = true ↔ cn l 3 = 0 := by
    simp only [cn, List.countP_eq_zero, List.all_eq_true, decide_eq_true_eq]
    constructor
    · intro h a ha; have := h a ha; omega
    · intro h1 a ha; have := h1 a ha; omega
  rw [Bool.and_eq_true, h3, decide_eq_true_eq]

set_option maxHeartbeats 1000000 in
theorem counted_any (A : Option Addr) (c : Nat) (l : List UInt8) (w : World) {n : Nat} (hn : l.length = n) (h : BR w A c l) :
    Calls Tryz.prog 77 #[.slice A n c] w fun e w' => e = .returned (.agg (cntV l)) ∧ w' = w.alloc (.cells (cntV l) 138) := by
  have hlen : (n : Int) ≤ 140737488351232 := by have := h.len; omega
  have HN := Lib.hid hn
  have H := Lib.hid h
  have HE : Hid (cntV l = #[.int .i64 (cn l 0), .int .i64 (cn l 1), .int .i64 (cn l 2), .int .i64 (cn l 3)]) := rfl
  clear hn h
  rw [HE.out]
  go_enter Tryz.func77, Tryz.ntmps77
  go_wp2_with fail
  go_loopw [7] (fun vk wr => ∃ k c0 c1 c2 c3 : Nat, k ≤ n ∧ vk = .int .i64 k ∧ Hid (c0 = cn (l.take k) 0 ∧ c1 = cn (l.take k) 1 ∧ c2 = cn (l.take k) 2 ∧ c3 = cn (l.take k) 3) ∧ (c0 : Int) ≤ k ∧ (c1 : Int) ≤ k ∧ (c2 : Int) ≤ k ∧ (c3 : Int) ≤ k ∧
      wr = w.alloc (.cells #[.int .i64 (c0 : Int), .int .i64 (c1 : Int), .int .i64 (c2 : Int), .int .i64 (c3 : Int)] 138)) (fun vk _ => n - (intOf vk).toNat)
  case atStart => exact ⟨0, 0, 0, 0, 0, by omega, rfl, ⟨rfl, rfl, rfl, rfl⟩, by omega, by omega, by omega, by omega, rfl⟩
  case round =>
    obtain ⟨k, c0, c1, c2, c3, hk, rfl, HC, i0, i1, i2, i3, rfl⟩ := hrel
    by_cases hkn : k < n
    · obtain ⟨b, off, rfl, hb, hc⟩ := H.out.at_ (i := k) (by have := HN.out; omega)
      have s0 := Lib.hid (cn_take_succ (l := l) (k := k) (v := 0) (by have := HN.out; omega))
      have s1 := Lib.hid (cn_take_succ (l := l) (k := k) (v := 1) (by have := HN.out; omega))
      have s2 := Lib.hid (cn_take_succ (l := l) (k := k) (v := 2) (by have := HN.out; omega))
      have s3 := Lib.hid (cn_take_succ (l := l) (k := k) (v := 3) (by have := HN.out; omega))
      have hx := bt_le l k
      generalize bt l k = x at *
      have hcase : x = 0 ∨ x = 1 ∨ x = 2 ∨ x = 3 ∨ 4 ≤ x := by omega
      rcases hcase with rfl | rfl | rfl | rfl | h3
      · go_wp2_with fail
        go_roundw
        case rel => exact ⟨k + 1, c0 + 1, c1, c2, c3, by omega, by go_num, by obtain ⟨a, b, c, d⟩ := HC.out; have := s0.out; have := s1.out; have := s2.out; have := s3.out; simp at *; exact ⟨by omega, by omega, by omega, by omega⟩, by omega, by omega, by omega, by omega, by congr 2⟩
        case measure => simp [intOf]; omega
      · go_wp2_with fail
        go_roundw
        case rel => exact ⟨k + 1, c0, c1 + 1, c2, c3, by omega, by go_num, by obtain ⟨a, b, c, d⟩ := HC.out; have := s0.out; have := s1.out; have := s2.out; have := s3.out; simp at *; exact ⟨by omega, by omega, by omega, by omega⟩, by omega, by omega, by omega, by omega, by congr 2⟩
        case measure => simp [intOf]; omega
      · go_wp2_with fail
        go_roundw
        case rel => exact ⟨k + 1, c0, c1, c2 + 1, c3, by omega, by go_num, by obtain ⟨a, b, c, d⟩ := HC.out; have := s0.out; have := s1.out; have := s2.out; have := s3.out; simp at *; exact ⟨by omega, by omega, by omega, by omega⟩, by omega, by omega, by omega, by omega, by congr 2⟩
        case measure => simp [intOf]; omega
      · go_wp2_with fail
        go_roundw
        case rel => exact ⟨k + 1, c0, c1, c2, c3 + 1, by omega, by go_num, by obtain ⟨a, b, c, d⟩ := HC.out; have := s0.out; have := s1.out; have := s2.out; have := s3.out; simp at *; exact ⟨by omega, by omega, by omega, by omega⟩, by omega, by omega, by omega, by omega, by congr 2⟩
        case measure => simp [intOf]; omega
      · have h4 : (4 : Int) ≤ x := by omega
        have hmin : min (x : Int) 3 = 3 := by omega
        have HM : Hid (min x 3 = 3) := by unfold Hid; omega
        rw [HM.out] at s0 s1 s2 s3
        clear h3
        go_wp2_with fail
        go_roundw
        case rel => exact ⟨k + 1, c0, c1, c2, c3 + 1, by omega, by go_num, by obtain ⟨a, b, c, d⟩ := HC.out; have := s0.out; have := s1.out; have := s2.out; have := s3.out; simp at *; exact ⟨by omega, by omega, by omega, by omega⟩, by omega, by omega, by omega, by omega, by congr 2⟩
        case measure => simp [intOf]; omega
    · have HT : Hid (l.take k = l) := List.take_of_length_le (by have := HN.out; omega)
      rw [HT.out] at HC
      go_wp2_with fail
      obtain ⟨e0, e1, e2, e3⟩ := HC.out
      subst e0 e1 e2 e3
      exact bodyPost_ret (v := .agg #[.int .i64 (cn l 0), .int .i64 (cn l 1), .int .i64 (cn l 2), .int .i64 (cn l 3)]) (by simp [results, Tryz.results77, go_sem]) rfl ⟨rfl, rfl⟩
end Go.Proofs.YtchnaimpmegbkaaGreatDoor

/- What the frames of the laws share: the arguments opened. -/
namespace Go.Proofs.YtchnaimpmegbkaaGreatDoor
open Go.ChangeShapes Go.WideShapes Go.ChangeAt Go.RowKit
open Go.ChangeMaps (open_string shut_string)
set_option linter.unusedVariables false

theorem own : ownKnob Tryz.prog.godebug = none := by kernel_rfl
theorem laidOut : laidOutB Tryz.prog = true := by kernel_rfl

theorem nat_of_u16 {a : Int} (h : (Lit.int .u16 a).wf = true) : ∃ n : Nat, a = n ∧ n < 65536 := by
  have := bounds_u16 h
  exact ⟨a.toNat, by omega, by omega⟩
theorem int_of_i64 {a : Int} (h : (Lit.int .i64 a).wf = true) : -9223372036854775808 ≤ a ∧ a ≤ 9223372036854775807 := by
  have := bounds_i64 h
  omega
end Go.Proofs.YtchnaimpmegbkaaGreatDoor

/- What the frames of the laws share: bytes, keys, integers, and rows of these among the arguments, opened. -/
namespace Go.Proofs.YtchnaimpmegbkaaGreatDoor
open Go.ChangeShapes Go.WideShapes Go.ChangeAt Go.RowKit Go.Deep
set_option linter.unusedVariables false

theorem weights_of_ {H : Type} {P : Program} {ts : List TypeId} {ds : List (DataW H)} (h : (DataW.weightsEach P ts ds).all (· ≤ reachBytes) = true) {j : Nat} {t : TypeId} {d : DataW H} (ht : ts[j]? = some t) (hd : ds[j]? = some d) :
    ∀ n ∈ d.weights P t, n ≤ reachBytes := fun n hn => by
  simpa using List.all_eq_true.1 h _ (DataW.weights_mem_each ht hd n hn)
theorem weights_all_mem {H : Type} {P : Program} {e : TypeId} {l : List (DataW H)} {d : DataW H} (hd : d ∈ l) {n : Nat} (hn : n ∈ d.weights P e) : n ∈ DataW.weightsAll P e l := by
  induction l with
  | nil => cases hd
  | cons x l ih =>
    rcases List.mem_cons.1 hd with rfl | h
    · exact List.mem_append.2 (.inl hn)
    · exact List.mem_append.2 (.inr (ih h))

/-- A slice that came in, element by element. -/
theorem slice_of_trod {H : Type} {enc : TypeId × Value → H} {P : Program} {W : World} {fuel : Nat} {t e : TypeId} {cs : List Value} {x : DataW H × List MemPlace} {s by_ : Nat} (ht : P.underlying t = some (.slice e)) (hs : P.cellsOf e = s) (hs0 : 0 < s) (hby : P.bytesOf e = by_) (h : DataW.trod enc P W 0 (fun _ => true) true fuel t cs = some x)
    (hw : ∀ n ∈ x.1.weights P t, n ≤ reachBytes) :
    ∃ (A : Option Addr) (len cap m : Nat) (C : Nat → List Value) (D : Nat → DataW H × List MemPlace), cs = [.slice A len cap] ∧ len ≤ cap ∧ cap ≤ 9223372036854775807 ∧ cap * by_ ≤ 140737488351232 ∧
      (len ≠ 0 → ∃ b off, A = some ⟨b, off, none⟩ ∧ b < W.heap.size ∧ ∀ i, i < len → ∀ j v, (C i)[j]? = some v → W.cell? ⟨b, off + (i * s + j), none⟩ = some v) ∧
      ∀ i, i < len → (C i).length = s ∧ DataW.trod enc P W 0 (fun _ => true) true m e (C i) = some (D i) ∧ ∀ n ∈ (D i).1.weights P e, n ≤ reachBytes := by
  rcases open_slice ht h with ⟨rfl, rfl⟩ | ⟨a, len, cap, m, n, D, Pl, rfl, _, hle, hm, hmm, rfl, hx⟩
  · exact ⟨none, 0, 0, 0, fun _ => [], fun _ => (.nil, []), rfl, Nat.le_refl _, by omega, by omega, fun h => absurd rfl h, fun i hi => absurd hi (by omega)⟩
  · simp only [if_true] at hmm
    subst hmm
    have hcap : m * by_ ≤ 140737488351232 := by
      have := hw ((len + (m - len)) * by_) (by simp [DataW.weights, ht, hby])
      simp only [reachBytes] at this
      rw [show len + (m - len) = m from by omega] at this
      exact this
    obtain ⟨C, hC⟩ := choose_lt (α := List Value) (p := fun i cs' => W.cells? 0 (a.add (i * P.cellsOf e)) (P.cellsOf e) = some cs' ∧ DataW.trod enc P W 0 (fun _ => true) true n e cs' = some (D i, Pl i)) (fun i hi => hx i hi)
    refine ⟨some a, len, m, n, C, fun i => (D i, Pl i), rfl, hle, by simpa [maxLen] using hm, hcap, fun h0 => ?_, fun i hi => ?_⟩
    · have h0' := hC 0 (by omega)
      obtain ⟨_, hl0, hc0⟩ := World.cells?_some h0'.1
      rw [hs] at hl0 hc0
      have hc00 := hc0 0 hs0
      rw [Nat.zero_mul, add_add, List.getElem?_eq_getElem (show 0 < (C 0).length by omega)] at hc00
      obtain ⟨b, off, spot⟩ := a
      have hspot : spot = none := by simpa [Addr.add] using World.cell?_spot hc00
      subst hspot
      refine ⟨b, off, rfl, by have := World.block_lt_of_cell? W _ hc00; simpa [Addr.add] using this, fun i hi j v hv => ?_⟩
      obtain ⟨_, hl, hc⟩ := World.cells?_some (hC i (by omega)).1
      rw [hs] at hl hc
      have hj : j < (C i).length := by
        rcases Nat.lt_or_ge j (C i).length with h' | h'
        · exact h'
        · rw [List.getElem?_eq_none h'] at hv; cases hv
      have := hc j (by omega)
      rw [add_add, Addr.add_lit, hv] at this
      exact this
    · obtain ⟨h1, h2⟩ := hC i (by omega)
      obtain ⟨_, hl, _⟩ := World.cells?_some h1
      refine ⟨by rw [hl, hs], h2, fun k hk => hw k ?_⟩
      simp only [DataW.weights, ht, List.mem_cons, List.mem_append]
      exact .inr (.inl (weights_all_mem (List.mem_map.2 ⟨i, List.mem_range.2 hi, rfl⟩) hk))

/-- .. as one row of cells. -/
theorem rd_of_cells {W : World} {A : Option Addr} {len cap s by_ : Nat} {C : Nat → List Value} (hle : len ≤ cap) (hcap : cap ≤ 9223372036854775807) (hlen : len ≤ 140737488351232) (hl : ∀ i, i < len → (C i).length = s)
    (h : len ≠ 0 → ∃ b off, A = some ⟨b, off, none⟩ ∧ b < W.heap.size ∧ ∀ i, i < len → ∀ j v, (C i)[j]? = some v → W.cell? ⟨b, off + (i * s + j), none⟩ = some v) : Rd W s A cap len ((List.range len).flatMap C) := by
  have hg : ∀ n, n ≤ len → ((List.range n).flatMap C).length = n * s := by
    intro n
    induction n with
    | zero => intro _; simp
    | succ n ih =>
      intro hn
      rw [List.range_succ, List.flatMap_append, List.length_append, ih (by omega)]
      simp [hl n (by omega), Nat.succ_mul]
  have hget : ∀ n, n ≤ len → ∀ k v, ((List.range n).flatMap C)[k]? = some v → ∃ i j, i < n ∧ k = i * s + j ∧ (C i)[j]? = some v := by
    intro n
    induction n with
    | zero => intro _ k v hv; simp at hv
    | succ n ih =>
      intro hn k v hv
      rw [List.range_succ, List.flatMap_append] at hv
      rcases Nat.lt_or_ge k (n * s) with hk | hk
      · rw [List.getElem?_append_left (by rw [hg n (by omega)]; exact hk)] at hv
        obtain ⟨i, j, hi, e, hc⟩ := ih (by omega) k v hv
        exact ⟨i, j, by omega, e, hc⟩
      · rw [List.getElem?_append_right (by rw [hg n (by omega)]; exact hk), hg n (by omega)] at hv
        simp only [List.flatMap_cons, List.flatMap_nil, List.append_nil] at hv
        exact ⟨n, k - n * s, by omega, by omega, hv⟩
  refine ⟨⟨hg len (Nat.le_refl _), hle, hcap, hlen⟩, fun hn => ?_⟩
  obtain ⟨b, off, e, hb, hc⟩ := h hn
  refine ⟨b, off, e, hb, fun k v hv => ?_⟩
  obtain ⟨i, j, hi, rfl, hv'⟩ := hget len (Nat.le_refl _) k v hv
  exact hc i hi j v hv'

theorem u8_of_trod {H : Type} {enc : TypeId × Value → H} {W : World} {fuel : Nat} {cs : List Value} {x : DataW H × List MemPlace} (h : DataW.trod enc Tryz.prog W 0 (fun _ => true) true fuel 5 cs = some x) : ∃ u : UInt8, cs = [.int .u8 (u.toNat : Int)] := by
  obtain ⟨n, rfl, _, hwf⟩ := DataW.trod_int Tryz.underlying5 h
  have := bounds_u8 hwf
  refine ⟨UInt8.ofNat n.toNat, ?_⟩
  congr 2
  simp only [UInt8.toNat_ofNat']
  omega
theorem bytes_u8 : Tryz.prog.bytesOf 5 = 1 := by kernel_rfl
theorem cells_u8 : Tryz.prog.cellsOf 5 = 1 := by kernel_rfl
theorem flat_bytes (U : Nat → UInt8) (C : Nat → List Value) (n : Nat) (h : ∀ i, i < n → C i = [.int .u8 ((U i).toNat : Int)]) : (List.range n).flatMap C = cellsB ((List.range n).map U) := by
  rw [List.flatMap_def, List.map_congr_left (g := fun i => [Value.int .u8 ((U i).toNat : Int)]) (fun i hi => h i (List.mem_range.1 hi))]
  simp [cellsB]
  induction n with
  | zero => rfl
  | succ n ih => rw [List.range_succ]; simp [ih (fun i hi => h i (by omega))]

/-- Bytes. -/
theorem bytes_of_trod {H : Type} {enc : TypeId × Value → H} {W : World} {fuel : Nat} {t : TypeId} {cs : List Value} {x : DataW H × List MemPlace} (ht : Tryz.prog.underlying t = some (.slice 5)) (h : DataW.trod enc Tryz.prog W 0 (fun _ => true) true fuel t cs = some x)
    (hw : ∀ n ∈ x.1.weights Tryz.prog t, n ≤ reachBytes) : ∃ A c l, cs = [.slice A (List.length l) c] ∧ BR W A c l := by
  obtain ⟨A, len, cap, m, C, D, rfl, hle, hcap, hby, hcell, hel⟩ := slice_of_trod ht cells_u8 (by omega) bytes_u8 h hw
  obtain ⟨U, hU⟩ := choose_lt (α := UInt8) (p := fun i u => C i = [.int .u8 (u.toNat : Int)]) (fun i hi => u8_of_trod (hel i hi).2.1)
  have hrd := rd_of_cells (by_ := 1) hle hcap (by omega) (fun i hi => (hel i hi).1) hcell
  rw [flat_bytes U C len hU] at hrd
  refine ⟨A, cap, (List.range len).map U, by simp, ?_⟩
  unfold BR
  simpa using hrd

theorem key_of_trod {H : Type} {enc : TypeId × Value → H} {W : World} {fuel : Nat} {cs : List Value} {x : DataW H × List MemPlace} (h : DataW.trod enc Tryz.prog W 0 (fun _ => true) true fuel 23 cs = some x) : ∃ k : List UInt8, k.length = 16 ∧ cs = cellsB k := by
  obtain ⟨xs, m, _, _, hl, hn, hel⟩ := DataW.trod_array Tryz.underlying23 h
  rw [show Tryz.prog.cellsOf 23 = 16 from by kernel_rfl] at hl
  rw [cells_u8] at hel
  obtain ⟨U, hU⟩ := choose_lt (α := UInt8) (n := 16) (p := fun i u => (cs.drop (i * 1)).take 1 = [.int .u8 (u.toNat : Int)]) (fun i hi => by
    have h1 := hel i hi
    rw [List.getElem?_eq_getElem (by omega)] at h1
    exact u8_of_trod h1)
  refine ⟨(List.range 16).map U, by simp, ?_⟩
  refine List.ext_getElem (by simp [cellsB, hl]) fun i hi hi2 => ?_
  have h1 := hU i (by omega)
  rw [Nat.mul_one, List.drop_eq_getElem_cons hi] at h1
  simp only [List.take_succ_cons, List.take_zero, List.cons.injEq, and_true] at h1
  rw [h1]
  simp [cellsB]
/-- Integers. -/
def cellsI (l : List Int) : List Value := l.map fun x => .int .i64 x
def IR (w : World) (A : Option Addr) (c : Nat) (l : List Int) : Prop := Rd w 1 A c l.length (cellsI l) ∧ ∀ x ∈ l, -9223372036854775808 ≤ x ∧ x ≤ 9223372036854775807
theorem cells_int : Tryz.prog.cellsOf 3 = 1 := by kernel_rfl
theorem int_of_trod {H : Type} {enc : TypeId × Value → H} {W : World} {fuel : Nat} {cs : List Value} {x : DataW H × List MemPlace} (h : DataW.trod enc Tryz.prog W 0 (fun _ => true) true fuel 3 cs = some x) : ∃ u : Int, cs = [.int .i64 u] ∧ -9223372036854775808 ≤ u ∧ u ≤ 9223372036854775807 := by
  obtain ⟨n, rfl, _, hwf⟩ := DataW.trod_int Tryz.underlying3 h
  have := bounds_i64 hwf
  exact ⟨n, rfl, by omega⟩
set_option maxRecDepth 100000 in
theorem slice_val {P : Program} {W : World} {b0 : Nat} {t e : TypeId} {v : Value} {A : Option Addr} {n c : Nat} (ht : P.underlying t = some (.slice e)) (hval : Value.okWide P W .any b0 t v) (h : v.cells.toList = [.slice A n c]) : v = .slice A n c := by
  obtain ⟨a, l, c', hv⟩ := okWide_slice ht hval
  subst hv
  simpa [Value.cells] using h
set_option maxRecDepth 100000 in
theorem open_bytes {H : Type} {enc : TypeId × Value → H} {W : World} {b0 : Nat} {v : Value} {d : DataW H} {ps : List MemPlace} (hval : Value.okWide Tryz.prog W .any b0 31 v) (hd : DataW.Trod enc Tryz.prog W 0 (fun _ => true) true 31 v d ps)
    (hw : ∀ n ∈ d.weights Tryz.prog 31, n ≤ reachBytes) : ∃ A c z, v = .slice A (List.length z) c ∧ BR W A c z := by
  obtain ⟨fuel, hf⟩ := hd
  obtain ⟨A, c, z, e, h⟩ := bytes_of_trod Tryz.underlying31 hf hw
  exact ⟨A, c, z, slice_val Tryz.underlying31 hval e, h⟩
end Go.Proofs.YtchnaimpmegbkaaGreatDoor

/- Arrays of integers and keys, compared. -/
namespace Go.Proofs.YtchnaimpmegbkaaGreatDoor
open Go.RowKit
set_option linter.unusedVariables false

theorem all_range_int : ∀ (xs ys : List Int), xs.length = ys.length → ((List.range xs.length).all fun i => xs.getD i 0 == ys.getD i 0) = (xs == ys)
  | [], [], _ => rfl
  | x :: xs, y :: ys, h => by
    have ih := all_range_int xs ys (by simpa using h)
    rw [List.length_cons, List.range_succ_eq_map, List.all_cons, List.all_map]
    simp only [List.getD_cons_zero, Function.comp_def, List.getD_cons_succ, ih]
    simp [List.cons_beq_cons]
  | [], _ :: _, h => by simp at h
  | _ :: _, [], h => by simp at h
theorem run_equalIn_ints {P : Program} (w : World) (d : Nat) (t e : TypeId) (k : IntKind) (n : Nat) (ht : P.underlying t = some (.array n e)) (he : P.underlying e = some (.int k)) (hsz : ∀ w, (sizeOf e).run P w = .ok 1 w)
    (xs ys : List Int) (hx : xs.length = n) (hy : ys.length = n) :
    (Op.equalIn (d + 2) t (.agg (xs.map (Value.int k)).toArray) (.agg (ys.map (Value.int k)).toArray)).run P w = .ok (xs == ys) w := by
  rw [← all_range_int xs ys (hx.trans hy.symm), hx, List.range_eq_range', Op.equalIn]
  simp only [Sem.run_bind, run_underlying ht, Result.andThen_ok, hsz, Std.Legacy.Range.forIn_eq_forIn_range', Std.Legacy.Range.size, Nat.sub_zero, Nat.add_sub_cancel, Nat.div_one]
  have hl : ∀ i ∈ List.range' 0 n 1, i < n := fun i hi => by simpa using (List.mem_range'_1.1 hi).2
  generalize List.range' 0 n 1 = l at hl ⊢
  induction l with
  | nil => simp
  | cons i l ih =>
    have hi : i < n := hl i (by simp)
    have px : (part e (xs.map (Value.int k)).toArray (i * 1)).run P w = .ok (.int k (xs.getD i 0)) w := by
      simp [part, isAgg, run_underlying he, List.getD, List.getElem?_eq_getElem (show i < xs.length by omega)]
    have py : (part e (ys.map (Value.int k)).toArray (i * 1)).run P w = .ok (.int k (ys.getD i 0)) w := by
      simp [part, isAgg, run_underlying he, List.getD, List.getElem?_eq_getElem (show i < ys.length by omega)]
    have pe : (Op.equalIn (d + 1) e (.int k (xs.getD i 0)) (.int k (ys.getD i 0))).run P w = .ok (xs.getD i 0 == ys.getD i 0) w := by
      rw [run_equalIn_int w d e k k _ _ he]
    simp only [List.forIn_cons, Sem.run_bind, px, py, pe, Result.andThen_ok, List.all_cons]
    cases hb : (xs.getD i 0 == ys.getD i 0)
    · simp
    · simp only [Bool.not_true, Bool.false_eq_true, if_false, Sem.run_pure, Result.andThen_ok, Bool.true_and]
      exact ih fun j hj => hl j (by simp [hj])
theorem size_one {P : Program} {e : TypeId} (h : (P.info? e).map (fun i => i.size) = some 1) : ∀ w, (sizeOf e).run P w = .ok 1 w := by
  intro w
  cases hi : P.info? e with
  | none => rw [hi] at h; cases h
  | some i =>
    rw [hi] at h
    injection h with h
    simp [sizeOf, typeInfo, hi, h]
/-- Two arrays of four integers. -/
theorem run_eql_4 (w : World) (a0 a1 a2 a3 b0 b1 b2 b3 : Int) : (binOp .eql 138 (.agg #[.int .i64 a0, .int .i64 a1, .int .i64 a2, .int .i64 a3]) (.agg #[.int .i64 b0, .int .i64 b1, .int .i64 b2, .int .i64 b3])).run Tryz.prog w = .ok (.bool ([a0, a1, a2, a3] == [b0, b1, b2, b3])) w := by
  have := run_equalIn_ints (P := Tryz.prog) w 9998 138 3 .i64 4 Tryz.underlying138 Tryz.underlying3 (size_one (by kernel_rfl)) [a0, a1, a2, a3] [b0, b1, b2, b3] rfl rfl
  rw [run_eql_struct]
  simp only [List.map_cons, List.map_nil] at this
  rw [this]
  rfl
end Go.Proofs.YtchnaimpmegbkaaGreatDoor

/- The block cipher in plain words: rounds, round keys, blocks; undoing it. -/
namespace Go.Proofs.YtchnaimpmegbkaaGreatDoor
set_option linter.unusedVariables false

abbrev W2 := UInt64 × UInt64
def rotr8 (x : UInt64) : UInt64 := x >>> 8 ||| x <<< 56
def rotl3 (x : UInt64) : UInt64 := x <<< 3 ||| x >>> 61
theorem or_add (m : Nat) {a b : Nat} (hb : b < 2 ^ m) : a * 2 ^ m ||| b = a * 2 ^ m + b := by
  have := Nat.two_pow_add_eq_or_of_lt (i := m) (b := b) hb a
  rw [Nat.mul_comm a, ← this]
/-- A round, and back. -/
def rnd (k : UInt64) (p : W2) : W2 := ((rotr8 p.1 + p.2) ^^^ k, rotl3 p.2 ^^^ ((rotr8 p.1 + p.2) ^^^ k))
/-- The state of the round keys after i rounds. -/
def ksS (k : W2) : Nat → W2
  | 0 => k
  | i + 1 => rnd (UInt64.ofNat i) (ksS k i)
/-- The words after i rounds. -/
def enW (k p : W2) : Nat → W2
  | 0 => p
  | i + 1 => rnd (ksS k i).2 (enW k p i)
/-- The number in some bytes, the highest first. -/
def wd (l : List UInt8) : UInt64 := l.foldl (fun n b => 256 * n + b.toUInt64) 0
/-- The bytes of a word, the highest first. -/
def by8 (x : UInt64) : List UInt8 := [(x >>> 56).toUInt8, (x >>> 48).toUInt8, (x >>> 40).toUInt8, (x >>> 32).toUInt8, (x >>> 24).toUInt8, (x >>> 16).toUInt8, (x >>> 8).toUInt8, x.toUInt8]
theorem by8_length (x : UInt64) : (by8 x).length = 8 := rfl
theorem wd_snoc (l : List UInt8) (b : UInt8) : wd (l ++ [b]) = 256 * wd l + b.toUInt64 := by simp [wd]
theorem shl8_or (n : UInt64) (b : UInt8) : n <<< 8 ||| b.toUInt64 = 256 * n + b.toUInt64 := by
  apply UInt64.toNat_inj.1
  have h := n.toNat_lt
  have h2 := b.toNat_lt
  simp only [UInt64.toNat_or, UInt64.toNat_shiftLeft, UInt64.toNat_add, UInt64.toNat_mul, UInt8.toNat_toUInt64]
  rw [show (8 : UInt64).toNat % 64 = 8 from rfl, show (256 : UInt64).toNat = 256 from rfl, Nat.shiftLeft_eq]
  rw [show n.toNat * 2 ^ 8 % 2 ^ 64 = (n.toNat % 2 ^ 56) * 2 ^ 8 from by omega, or_add 8 (by omega)]
  omega
theorem toNat_shr (x : UInt64) (k : Nat) (hk : k < 64) : (x >>> (UInt64.ofNat k)).toNat = x.toNat / 2 ^ k := by
  rw [UInt64.toNat_shiftRight, Nat.shiftRight_eq_div_pow]
  simp [UInt64.toNat_ofNat', Nat.mod_eq_of_lt (show k < 18446744073709551616 by omega), Nat.mod_eq_of_lt hk]
/-- The words of a block; the block of two words. -/
def wds (b : List UInt8) : W2 := (wd (b.take 8), wd (b.drop 8))
def blk (p : W2) : List UInt8 := by8 p.1 ++ by8 p.2
def encS (k b : List UInt8) : List UInt8 := blk (enW (wds k) (wds b) 32)
/-- The block of a tag, a counter and a number; what is derived; a number below most. -/
def tagS (t : UInt8) (c n : UInt64) : List UInt8 := blk (t.toUInt64 <<< 56 ||| c, n)
def derS (k : List UInt8) (t : UInt8) (n : UInt64) : List UInt8 := encS k (tagS t 0 n)
def numS (k : List UInt8) (n most : UInt64) : UInt64 := if most = 0 then 0 else (wds (derS k 3 n)).1 % most
end Go.Proofs.YtchnaimpmegbkaaGreatDoor

/- Keys in memory: a whole row out of a block and into it, as the walk meets them. -/
namespace Go.Proofs.YtchnaimpmegbkaaGreatDoor
open Go.RowKit
set_option linter.unusedVariables false

/-- The cells of a block; whether they may be written. -/
def rowAt (w : World) (g : Nat) : Array Value := match w.heap[g]? with | some (.cells cs _ _) => cs | _ => #[]
def rowFree (w : World) (g : Nat) : Bool := match w.heap[g]? with | some (.cells _ _ fr) => fr == (0, 0) | _ => false
theorem rowAt_some {w : World} {g : Nat} (h : (rowAt w g).size = 16) : ∃ t fr, w.heap[g]? = some (.cells (rowAt w g) t fr) := by
  unfold rowAt at h ⊢
  split
  · rename_i cs t fr he
    exact ⟨t, fr, by rw [he]⟩
  · rename_i he
    split at h
    · rename_i cs t fr he2
      exact absurd he2 (he cs t fr)
    · simp at h
theorem rowAt_alloc_new (w : World) (cs : Array Value) (t : TypeId) : rowAt (w.alloc (.cells cs t)) w.heap.size = cs := by
  unfold rowAt; rw [heap_alloc_new]
theorem rowFree_alloc_new (w : World) (cs : Array Value) (t : TypeId) : rowFree (w.alloc (.cells cs t)) w.heap.size = true := by
  unfold rowFree; rw [heap_alloc_new]; rfl
theorem run_storeCells_key {P : Program} (w : World) (g : Nat) (l : List Value) (hl : l.length = 16) (h1 : l.all (·.oneCell') = true) (h : (rowAt w g).size = 16) (hf : rowFree w g = true) : (storeCells ⟨g, 0, none⟩ l 0).run P w = .ok () (w.setRow g l.toArray) := by
  obtain ⟨t, fr, he⟩ := rowAt_some h
  have hfr : fr = (0, 0) := by
    unfold rowFree at hf
    rw [he] at hf
    simpa using hf
  subst hfr
  exact run_storeCells_from (P := P) g t l 0 (rowAt w g) w he (by omega) (fun v hv => List.all_eq_true.1 h1 v hv)
theorem run_storeCells_new {P : Program} (w : World) (cs : Array Value) (t : TypeId) (l : List Value) (hl : l.length = 16) (h1 : l.all (·.oneCell') = true) (hc : cs.size = 16) : (storeCells ⟨w.heap.size, 0, none⟩ l 0).run P (w.alloc (.cells cs t)) = .ok () (w.alloc (.cells l.toArray t)) := by
  rw [run_storeCells_key _ _ l hl h1 (by rw [rowAt_alloc_new]; exact hc) (rowFree_alloc_new w cs t), World.setRow_alloc_new]
theorem setRow_alloc_new (w : World) (c c' : Array Value) (t : TypeId) : (w.alloc (.cells c t)).setRow w.heap.size c' = w.alloc (.cells c' t) := World.setRow_alloc_new w c c' t
/-- A whole key that was read cell by cell. -/
theorem fold16 (l : List Value) (p0 : 0 < l.length) (p1 : 1 < l.length) (p2 : 2 < l.length) (p3 : 3 < l.length) (p4 : 4 < l.length) (p5 : 5 < l.length) (p6 : 6 < l.length) (p7 : 7 < l.length) (p8 : 8 < l.length) (p9 : 9 < l.length) (p10 : 10 < l.length) (p11 : 11 < l.length) (p12 : 12 < l.length) (p13 : 13 < l.length) (p14 : 14 < l.length) (p15 : 15 < l.length) (h : l.length = 16) : (#[l[0]'p0, l[1]'p1, l[2]'p2, l[3]'p3, l[4]'p4, l[5]'p5, l[6]'p6, l[7]'p7, l[8]'p8, l[9]'p9, l[10]'p10, l[11]'p11, l[12]'p12, l[13]'p13, l[14]'p14, l[15]'p15] : Array Value) = l.toArray := by
  match l, h with
  | [_, _, _, _, _, _, _, _, _, _, _, _, _, _, _, _], _ => rfl
theorem fold16B (b : List UInt8) (h : b.length = 16) {p0 : 0 < (cellsB b).length} {p1 : 1 < (cellsB b).length} {p2 : 2 < (cellsB b).length} {p3 : 3 < (cellsB b).length} {p4 : 4 < (cellsB b).length} {p5 : 5 < (cellsB b).length} {p6 : 6 < (cellsB b).length} {p7 : 7 < (cellsB b).length} {p8 : 8 < (cellsB b).length} {p9 : 9 < (cellsB b).length} {p10 : 10 < (cellsB b).length} {p11 : 11 < (cellsB b).length} {p12 : 12 < (cellsB b).length} {p13 : 13 < (cellsB b).length} {p14 : 14 < (cellsB b).length} {p15 : 15 < (cellsB b).length} : (#[(cellsB b)[0]'p0, (cellsB b)[1]'p1, (cellsB b)[2]'p2, (cellsB b)[3]'p3, (cellsB b)[4]'p4, (cellsB b)[5]'p5, (cellsB b)[6]'p6, (cellsB b)[7]'p7, (cellsB b)[8]'p8, (cellsB b)[9]'p9, (cellsB b)[10]'p10, (cellsB b)[11]'p11, (cellsB b)[12]'p12, (cellsB b)[13]'p13, (cellsB b)[14]'p14, (cellsB b)[15]'p15] : Array Value) = (cellsB b).toArray := fold16 _ _ _ _ _ _ _ _ _ _ _ _ _ _ _ _ _ (by rw [cellsB_length, h])

/-- The key of zeros. -/
def zeroK : List UInt8 := List.replicate 16 0
theorem zeroK_length : zeroK.length = 16 := rfl
/-- Block g is just these cells, none frozen. -/
def Blk (w : World) (g : Nat) (t : TypeId) (cs : Array Value) : Prop := w.heap[g]? = some (.cells cs t (0, 0))
section
variable {w w' : World} {g : Nat} {t : TypeId} {cs : Array Value}
theorem Blk.lt (h : Blk w g t cs) : g < w.heap.size := by
  rcases Nat.lt_or_ge g w.heap.size with hlt | hge
  · exact hlt
  · unfold Blk at h; rw [Array.getElem?_eq_none hge] at h; cases h
theorem Blk.cell (h : Blk w g t cs) (i : Nat) : w.cell? ⟨g, i, none⟩ = cs[i]? := cell_of_row w g i cs t (0, 0) h
theorem Blk.frozen (h : Blk w g t cs) (i : Nat) : w.frozen? ⟨g, i, none⟩ = false := by
  unfold Blk at h
  simp [World.frozen?, h]
theorem Blk.new (w : World) (t : TypeId) (cs : Array Value) : Blk (w.alloc (.cells cs t)) w.heap.size t cs := heap_alloc_new w _
theorem Blk.drew (h : Blk w g t cs) : Blk w.drew g t cs := h
theorem Blk.drewN (h : Blk w g t cs) (n : Nat) : Blk (w.drewN n) g t cs := h
theorem Blk.alloc (h : Blk w g t cs) (o : Obj) : Blk (w.alloc o) g t cs := (Below.heap_alloc w o g h.lt).trans h
theorem Blk.set_ (h : Blk w g t cs) (i : Nat) (u : Value) : Blk (w.setCell ⟨g, i, none⟩ u) g t (cs.setIfInBounds i u) := by
  unfold Blk at h ⊢
  simp [World.setCell, Array.getElem?_modify, h]
theorem Blk.far (h : Blk w g t cs) {p : Addr} (hp : g ≠ p.block) (u : Value) : Blk (w.setCell p u) g t cs := (Below.heap_setCell w p u g hp).trans h
theorem Blk.below {B : Nat} (h : Blk w g t cs) (hb : Below B w w') (hg : g < B) : Blk w' g t cs := (hb.block g hg).trans h
theorem Blk.below' (h : Blk w g t cs) (hb : Below w.heap.size w w') : Blk w' g t cs := h.below hb h.lt
theorem Blk.row (h : Blk w g t cs) : rowAt w g = cs := by unfold rowAt; unfold Blk at h; rw [h]
theorem Blk.free (h : Blk w g t cs) : rowFree w g = true := by unfold rowFree; unfold Blk at h; rw [h]; rfl
theorem Blk.setRow (h : Blk w g t cs) (cs' : Array Value) : Blk (w.setRow g cs') g t cs' := setRow_heap w g cs cs' t (0, 0) h
end
theorem below_setRow {B : Nat} {a w : World} (h : Below B a w) {g : Nat} (hg : B ≤ g) (cs : Array Value) : Below B a (w.setRow g cs) :=
  ⟨h.os, h.tape, h.output, by simpa using h.size, fun k hk => (setRow_other w g k cs (by omega)).trans (h.block k hk)⟩
theorem blk_b0 (w : World) (cs : Array Value) (t : TypeId) (o1 : Obj) : Blk ((w.alloc (.cells cs t)).alloc o1) w.heap.size t cs := (Blk.new w t cs).alloc o1
theorem blk_b1 (w : World) (o0 : Obj) (cs : Array Value) (t : TypeId) : Blk ((w.alloc o0).alloc (.cells cs t)) (w.heap.size + 1) t cs := by
  have := Blk.new (w.alloc o0) t cs
  rwa [World.size_alloc] at this
theorem blk_a0 (w : World) (cs : Array Value) (t : TypeId) (o1 o2 : Obj) : Blk (((w.alloc (.cells cs t)).alloc o1).alloc o2) w.heap.size t cs := (blk_b0 w cs t o1).alloc o2
theorem blk_a1 (w : World) (o0 : Obj) (cs : Array Value) (t : TypeId) (o2 : Obj) : Blk (((w.alloc o0).alloc (.cells cs t)).alloc o2) (w.heap.size + 1) t cs := (blk_b1 w o0 cs t).alloc o2
theorem blk_a2 (w : World) (o0 o1 : Obj) (cs : Array Value) (t : TypeId) : Blk (((w.alloc o0).alloc o1).alloc (.cells cs t)) (w.heap.size + 1 + 1) t cs := by
  have := blk_b1 (w.alloc o0) o1 cs t
  rwa [World.size_alloc] at this
theorem alloc3_bel (w : World) (o0 o1 o2 : Obj) : Below w.heap.size w (((w.alloc o0).alloc o1).alloc o2) := (((Below.refl _ _).alloc (Nat.le_refl _) _).alloc (by simp) _).alloc (by simp; omega) _
theorem alloc2_bel (w : World) (o0 o1 : Obj) : Below w.heap.size w ((w.alloc o0).alloc o1) := ((Below.refl _ _).alloc (Nat.le_refl _) _).alloc (by simp) _
/-- A key in a block: bytes. -/
theorem bytes_get (b : List UInt8) (i : Nat) (h : i < b.length) : (cellsB b).toArray[i]? = some (.int .u8 ((b.getD i 0).toNat : Int)) := by
  simp [cellsB, List.getD, List.getElem?_eq_getElem h]
end Go.Proofs.YtchnaimpmegbkaaGreatDoor
