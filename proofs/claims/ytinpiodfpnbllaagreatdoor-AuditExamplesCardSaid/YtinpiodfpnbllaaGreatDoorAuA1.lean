/-
  Lemmas and contracts, joined.
-/
import Derived.Test.YtinpiodfpnbllaaGreatDoorRows
import Derived.WalkKit
import Derived.WalkSpells
import Derived.WalkLawsBesides
import Derived.Lib.Hide
import Derived.Deep.QuietTactic
import Derived.BigQuiet
import Derived.Maps.AppendAt
import Derived.Laws.Rows
import Derived.Deep.OwnRows
import Derived.Laws.IdiomStrings
import Derived.Stop.BytesEq
import Derived.Deep.WholeRow
import Derived.Deep.MidRow
import Derived.Deep.RegionHeld3
set_option linter.unusedSimpArgs false
set_option linter.unusedVariables false
set_option linter.unnecessarySimpa false
/- A region that draws its order, whose operations only read and whose callees may make memory but hand back plain values: one walk of the text's order serves every order, in the class of the worlds in which nothing that was there has turned. -/
namespace Go.Proofs.YtinpiodfpnbllaaGreatDoor
open Go.RowKit
set_option linter.unusedVariables false

/-- A world in which nothing of w0 has turned. -/
structure Wd (w0 : World) where
  w : World
  h : Below w0.heap.size w0 w

instance (w0 : World) : Nonempty (Wd w0) := ⟨⟨w0, Below.refl _ _⟩⟩

theorem Wd.call {P : Program} {f : FuncId} {args : Array Value} {w0 : World} {v : Value} (x : Wd w0)
    (h : Calls P f args x.w fun e w' => e = .returned v ∧ Below x.w.heap.size x.w w') : Calls P f args x.w fun e w'' => e = .returned v ∧ ∃ y : Wd w0, w'' = y.w :=
  h.mono fun _ w' ⟨he, hb⟩ => ⟨he, ⟨w', x.h.trans (hb.mono x.h.size)⟩, rfl⟩
theorem Wd.call_same {P : Program} {f : FuncId} {args : Array Value} {w0 : World} {v : Value} (x : Wd w0)
    (h : Calls P f args x.w fun e w' => e = .returned v ∧ x.w = w') : Calls P f args x.w fun e w'' => e = .returned v ∧ ∃ y : Wd w0, w'' = y.w :=
  h.mono fun _ w' ⟨he, hb⟩ => ⟨he, x, hb.symm⟩

theorem wp_region_wd {P : Program} {id : Nat} {Q : Exit → Act → World → Prop} {a : Act} {w : World} {l : List Oper} (hm : P.follows .mixedOrders = true) (hB : Region.lexB .any l.toArray = true)
    (h : wpQuiet P l.toArray (fun w' => ∃ x : Wd w, w' = x.w) (fun a' => ∀ w', (∃ x : Wd w, w' = x.w) → Q .normal a' w') l a) : (Code.region id l.toArray true).wp P Q a w :=
  wp_region_quiet (C := fun w' => ∃ x : Wd w, w' = x.w) hm hB ⟨⟨_, (Below.refl _ _).drew⟩, rfl⟩ (by simpa using h)
end Go.Proofs.YtinpiodfpnbllaaGreatDoor

/- append onto a row of the call's own, whatever the source: the value that comes out is written out as a slice. -/
namespace Go.Proofs.YtinpiodfpnbllaaGreatDoor
open Go.RowKit
set_option linter.unusedVariables false

/-- What append takes: m elements of 'size' cells each. -/
def Src (w : World) (size : Nat) (X : Option Addr) (m : Nat) (news : List Value) : Prop :=
  news.length = m * size ∧ (m = 0 ∨ ∃ a, X = some a ∧ ∀ j u, news[j]? = some u → w.cell? (a.add j) = some u)
theorem Src.nil (w : World) (size : Nat) (X : Option Addr) : Src w size X 0 [] := ⟨by simp, .inl rfl⟩
theorem Src.one (w : World) (v : Value) (e : TypeId) : Src (w.alloc (.cells #[v] e)) 1 (some ⟨w.heap.size, 0, none⟩) 1 [v] :=
  ⟨by simp, .inr ⟨_, rfl, cell_one_new _ _ _⟩⟩

theorem run_append_empty {P : Program} (w : World) (base : Nat) (t ty e : TypeId) (i : TypeInfo) (size : Nat) (ht : P.underlying t = some (.slice e)) (hi : P.info? e = some i)
    (A : Option Addr) (n c : Nat) (xs : List Value) (hown : w.ownsRow base e size (.slice A n c) n xs) (d : Nat) : (Builtin.append_ #[t, t] ty #[.slice A n c, .slice none 0 d]).run P w = .ok (.slice A n c) w := by
  rcases hown.2 with ⟨hv, rfl⟩ | ⟨g, cap, cur, hv, _, _, hnc, _⟩
  · injection hv with h1 h2 h3
    subst h1 h3
    simp [Builtin.append_, run_underlying ht, sizeOf, typeInfo, hi, Builtin.lenOf, Builtin.firstCells]
  · injection hv with h1 h2 h3
    subst h1 h3
    simp [Builtin.append_, run_underlying ht, sizeOf, typeInfo, hi, Builtin.lenOf, Builtin.firstCells, hnc, storeCells]

theorem run_append_src {P : Program} (w : World) (base : Nat) (t ty e : TypeId) (i : TypeInfo) (z : Value) (size bytes : Nat) (ht : P.underlying t = some (.slice e)) (hi : P.info? e = some i) (hz : i.zero = some z)
    (hsize : i.size = size) (hby : i.bytes = bytes) (hzs : z.cells.size = size) (hsz : 0 < size)
    (A : Option Addr) (n c : Nat) (xs : List Value) (hown : w.ownsRow base e size (.slice A n c) n xs)
    (X : Option Addr) (m d : Nat) (news : List Value) (hsrc : Src w size X m news) (h1 : ∀ u ∈ news, u.oneCell' = true)
    (h63 : n + m ≤ maxLen) (hbytes : (n + m) * bytes ≤ 140737488355328) (hbase : base ≤ w.heap.size) :
    ∃ A' c' w', (Builtin.append_ #[t, t] ty #[.slice A n c, .slice X m d]).run P w = .ok (.slice A' (n + m) c') w' ∧ w'.ownsRow base e size (.slice A' (n + m) c') (n + m) (xs ++ news) ∧ w.grownBy w' (Value.ownBlock (.slice A n c)) ∧
      (Value.ownBlock (.slice A' (n + m) c') = Value.ownBlock (.slice A n c) ∨ Value.ownBlock (.slice A' (n + m) c') = some w.heap.size) := by
  obtain ⟨hl, hs⟩ := hsrc
  cases X with
  | none =>
    have hm : m = 0 := by
      rcases hs with h | ⟨a, h, _⟩
      · exact h
      · cases h
    subst hm
    have hn : news = [] := List.eq_nil_of_length_eq_zero (by simpa using hl)
    subst hn
    exact ⟨A, c, w, run_append_empty w base t ty e i size ht hi A n c xs hown d, by simpa using hown, World.grownBy.refl w _, .inl rfl⟩
  | some a =>
    have hnews : ∀ j u, news[j]? = some u → w.cell? (a.add j) = some u := by
      rcases hs with h | ⟨a', h, hc⟩
      · subst h
        have hn : news = [] := List.eq_nil_of_length_eq_zero (by simpa using hl)
        subst hn
        intro j u hu
        simp at hu
      · injection h with h
        subst h
        exact hc
    obtain ⟨v', w', hrun, h2, h3, h4, h5⟩ := run_append_own_at (P := P) w base t ty e i z size bytes ht hi hz hsize hby hzs hsz (.slice A n c) n xs hown a m d news hl hnews h1 h63 hbytes hbase
    have hform : ∃ A' c', v' = .slice A' (n + m) c' := by
      rcases h2.2 with ⟨rfl, h0⟩ | ⟨g, cap, cur, rfl, _⟩
      · exact ⟨none, 0, by rw [h0]⟩
      · exact ⟨_, _, rfl⟩
    obtain ⟨A', c', rfl⟩ := hform
    exact ⟨A', c', w', hrun, h2, h3, h5⟩

theorem wpList_append_src {P : Program} (w : World) {ops : Array Oper} {rest : List Oper} {o : Oper} {a : Act} {Q : Exit → Act → World → Prop} (hgd : o.guard = none) (s x : Operand) (t : TypeId)
    (ho : o.op = .call { callee := .builtin .append, args := #[s, x], argTypes := #[t, t] })
    (base : Nat) (e : TypeId) (i : TypeInfo) (z : Value) (size bytes : Nat) (ht : P.underlying t = some (.slice e)) (hi : P.info? e = some i) (hz : i.zero = some z)
    (hsize : i.size = size) (hby : i.bytes = bytes) (hzs : z.cells.size = size) (hsz : 0 < size)
    (A : Option Addr) (n c : Nat) (xs : List Value) (hs : a.eval s = .slice A n c) (hown : w.ownsRow base e size (.slice A n c) n xs)
    (X : Option Addr) (m d : Nat) (news : List Value) (hx : a.eval x = .slice X m d) (hsrc : Src w size X m news) (h1 : ∀ u ∈ news, u.oneCell' = true)
    (h63 : n + m ≤ maxLen) (hbytes : (n + m) * bytes ≤ 140737488355328) (hbase : base ≤ w.heap.size)
    (h : ∀ A' c' w', w'.ownsRow base e size (.slice A' (n + m) c') (n + m) (xs ++ news) → w.grownBy w' (Value.ownBlock (.slice A n c)) →
      (Value.ownBlock (.slice A' (n + m) c') = Value.ownBlock (.slice A n c) ∨ Value.ownBlock (.slice A' (n + m) c') = some w.heap.size) → wpList P ops Q rest (a.put o.dst (.slice A' (n + m) c')) w') : wpList P ops Q (o :: rest) a w := by
  refine wpList_plain hgd fun K hK => ?_
  obtain ⟨A', c', w', hrun, h2, h3, h4⟩ := run_append_src (P := P) w base t o.type e i z size bytes ht hi hz hsize hby hzs hsz A n c xs hown X m d news hsrc h1 h63 hbytes hbase
  unfold Oper.wp execOp
  simp only [ho, resolve, invoke, builtin, Sem.run_bind, Sem.run_pure, Result.andThen_ok, List.map_toArray, List.map_cons, List.map_nil, hs, hx, hrun]
  exact hK _ _ (h A' c' w' h2 h3 h4)

theorem grown_below {B : Nat} {a w w' : World} {base : Nat} {e : TypeId} {size n : Nat} {v : Value} {xs : List Value} (h : Below B a w) (hown : w.ownsRow base e size v n xs) (hg : w.grownBy w' v.ownBlock) (hB : B ≤ w.heap.size) (hb : B ≤ base) : Below B a w' :=
  h.grown hg hB fun k hk => by have := (hown.lt k hk).1; omega
theorem ownsRow_below {w w' : World} {base : Nat} {e : TypeId} {size n : Nat} {v : Value} {xs : List Value} (h : w.ownsRow base e size v n xs) (hb : Below w.heap.size w w') : w'.ownsRow base e size v n xs := by
  refine h.kept (row := none) ⟨hb.os, hb.tape, hb.output, hb.size, fun k hk _ => hb.block k hk⟩ ?_
  cases v.ownBlock
  · exact .inl rfl
  · exact .inr (by simp)
end Go.Proofs.YtinpiodfpnbllaaGreatDoor

/- In a region that draws its order: the load of a whole row, the row kept as it is. -/
namespace Go.Proofs.YtinpiodfpnbllaaGreatDoor
open Go.RowKit
set_option linter.unusedVariables false

theorem quiet_load_as {P : Program} {C : World → Prop} {a : Act} {K : Act → Prop} {dst : Option Tmp} {ty : TypeId} {x : Operand} {type : TypeId} {pos : String} {after : Array Edge} {guard : Option (Nat × Bool)}
    (g : Nat) (hx : a.eval x = .pointer (some ⟨g, 0, none⟩)) (t : TypeId) (cs : Array Value) (fr : Nat × Nat) (d : TypeDesc) (hg : ∀ w, C w → w.heap[g]? = some (.cells cs t fr))
    (hu : P.underlying ty = some d) (hd : (match d with | .struct _ | .array _ _ => true | _ => false) = true) (hi : (P.info? ty).map (·.size) = some cs.size)
    (h : Oper.quiet P (Oper.mk dst (.move (.const (.agg cs))) type pos after guard) a C K) : Oper.quiet P (Oper.mk dst (.load ty x) type pos after guard) a C K := by
  obtain ⟨v, h1, h2⟩ := h
  refine ⟨v, fun w hw => ?_, h2⟩
  have e := h1 w hw
  unfold Oper.quietAt at e ⊢
  rw [BigFrame.run_move (.const (.agg cs)) rfl] at e
  have hv : Value.agg cs = v := e.2
  subst hv
  unfold execOp
  simp only [hx, Instr.loadAt, Instr.sureAddr, Sem.run_bind, Sem.run_pure, Result.andThen_ok, run_loadVar_row w g t ty cs fr d (hg w hw) hu hd hi]
  exact ⟨rfl, rfl⟩
end Go.Proofs.YtinpiodfpnbllaaGreatDoor

/- Slices in memory, whatever their elements: what is read of them, and what the call itself owns of them. -/
namespace Go.Proofs.YtinpiodfpnbllaaGreatDoor
open Go.RowKit
set_option linter.unusedVariables false

/-- The slice '.slice A n c' has n elements of s cells each, and these are the cells. -/
def Rd (w : World) (s : Nat) (A : Option Addr) (c n : Nat) (xs : List Value) : Prop :=
  (xs.length = n * s ∧ n ≤ c ∧ c ≤ 9223372036854775807 ∧ n ≤ 140737488351232) ∧
    (n ≠ 0 → ∃ b off, A = some ⟨b, off, none⟩ ∧ b < w.heap.size ∧ ∀ j v, xs[j]? = some v → w.cell? ⟨b, off + j, none⟩ = some v)

section
variable {w w' : World} {s c n : Nat} {A : Option Addr} {xs : List Value}
theorem Rd.nil (w : World) (s : Nat) : Rd w s none 0 0 [] := ⟨⟨by simp, Nat.le_refl _, by omega, by omega⟩, fun h => absurd rfl h⟩
theorem Rd.size (h : Rd w s A c n xs) : xs.length = n * s := h.1.1
theorem Rd.le (h : Rd w s A c n xs) : n ≤ c := h.1.2.1
theorem Rd.cap (h : Rd w s A c n xs) : c ≤ 9223372036854775807 := h.1.2.2.1
theorem Rd.len (h : Rd w s A c n xs) : n ≤ 140737488351232 := h.1.2.2.2
theorem Rd.keep (h : Rd w s A c n xs) (hs : w.heap.size ≤ w'.heap.size) (hk : ∀ p : Addr, p.block < w.heap.size → w'.cell? p = w.cell? p) : Rd w' s A c n xs :=
  ⟨h.1, fun hn => by
    obtain ⟨b, off, e, hb, hc⟩ := h.2 hn
    exact ⟨b, off, e, by omega, fun j v hv => (hk _ hb).trans (hc j v hv)⟩⟩
theorem Rd.below (h : Rd w s A c n xs) (hb : Below w.heap.size w w') : Rd w' s A c n xs := h.keep hb.size fun p hp => hb.cell hp
theorem Rd.alloc (h : Rd w s A c n xs) (o : Obj) : Rd (w.alloc o) s A c n xs := h.below ((Below.refl _ _).alloc (Nat.le_refl _) o)
theorem Rd.drew (h : Rd w s A c n xs) : Rd w.drew s A c n xs := h.below (Below.refl _ _).drew
theorem Rd.drewN (h : Rd w s A c n xs) (k : Nat) : Rd (w.drewN k) s A c n xs := h.below ((Below.refl _ _).trans ⟨rfl, rfl, rfl, Nat.le_refl _, fun _ _ => rfl⟩)
/-- One cell of one-cell elements. -/
theorem Rd.at1 (h : Rd w 1 A c n xs) {i : Nat} (hi : i < n) : ∃ b off, A = some ⟨b, off, none⟩ ∧ b < w.heap.size ∧ ∃ v, xs[i]? = some v ∧ w.cell? ⟨b, off + i, none⟩ = some v := by
  obtain ⟨b, off, e, hb, hc⟩ := h.2 (by omega)
  have hl := h.size
  exact ⟨b, off, e, hb, xs[i]'(by omega), List.getElem?_eq_getElem _, hc i _ (List.getElem?_eq_getElem _)⟩
theorem Rd.src (h : Rd w s A c n xs) : Src w s A n xs := by
  refine ⟨h.size, ?_⟩
  by_cases hn : n = 0
  · exact .inl hn
  · obtain ⟨b, off, e, hb, hc⟩ := h.2 hn
    refine .inr ⟨_, e, fun j u hu => ?_⟩
    rw [Addr.add_lit]
    exact hc j u hu
/-- What the call owns it can read. -/
theorem Rd.of_own {B : Nat} {t : TypeId} (h : w.ownsRow B t s (.slice A n c) n xs) (hn : n ≤ 140737488351232) : Rd w s A c n xs := by
  have hl := h.1
  rcases h.2 with ⟨hv, h0⟩ | ⟨g, cap, cur, hv, hB, hh, hnc, hm, hs, ht⟩
  · injection hv with h1 h2 h3
    subst h1 h3 h0
    have : xs = [] := List.eq_nil_of_length_eq_zero (by simpa using hl)
    subst this
    exact Rd.nil w s
  · injection hv with h1 h2 h3
    subst h1 h3
    have hlt : g < w.heap.size := by
      rcases Nat.lt_or_ge g w.heap.size with hlt | hge
      · exact hlt
      · rw [Array.getElem?_eq_none hge] at hh; cases hh
    refine ⟨⟨hl, hnc, by simpa [maxLen] using hm, hn⟩, fun _ => ⟨g, 0, rfl, hlt, fun j v hv => ?_⟩⟩
    have hj : j < xs.length := by
      rcases Nat.lt_or_ge j xs.length with h' | h'
      · exact h'
      · rw [List.getElem?_eq_none h'] at hv; cases hv
    have := h.cellAt j (by omega)
    rw [Nat.zero_add, this, hv]
end

theorem own_ne {w : World} {B B' : Nat} {t t' : TypeId} {s s' n n' : Nat} {v v' : Value} {xs xs' : List Value} (h : w.ownsRow B t s v n xs) (h' : w.ownsRow B' t' s' v' n' xs') (hne : t ≠ t') : v.ownBlock = none ∨ v.ownBlock ≠ v'.ownBlock := by
  rcases h.2 with ⟨rfl, _⟩ | ⟨g, cap, cur, rfl, _, hh, _⟩
  · exact .inl rfl
  · rcases h'.2 with ⟨rfl, _⟩ | ⟨g', cap', cur', rfl, _, hh', _⟩
    · exact .inr (by simp [Value.ownBlock])
    · refine .inr fun e => hne ?_
      have : g = g' := by simpa [Value.ownBlock] using e
      subst this
      rw [hh] at hh'
      injection hh' with hh'
      injection hh' with _ ht
/-- A row of another element type stays as it is when a row grows. -/
theorem own_kept {w w' : World} {B B' : Nat} {t t' : TypeId} {s s' n n' : Nat} {v v' : Value} {xs xs' : List Value} (h : w.ownsRow B t s v n xs) (h' : w.ownsRow B' t' s' v' n' xs') (hne : t ≠ t') (hg : w.grownBy w' v'.ownBlock) : w'.ownsRow B t s v n xs :=
  h.kept hg (own_ne h h' hne)

/-- What is read below a base stays when a row from the base on grows. -/
theorem Rd.grown {w w' : World} {B B' : Nat} {t : TypeId} {s s' c n n' : Nat} {A : Option Addr} {v : Value} {xs ys : List Value} (h : Rd w s A c n xs) (hb : n ≠ 0 → ∀ a, A = some a → a.block < B) (hown : w.ownsRow B t s' v n' ys) (hg : w.grownBy w' v.ownBlock) : Rd w' s A c n xs :=
  ⟨h.1, fun hn => by
    obtain ⟨b, off, e, hlt, hc⟩ := h.2 hn
    have hB := hb hn _ e
    refine ⟨b, off, e, Nat.lt_of_lt_of_le hlt hg.size, fun j u hu => ?_⟩
    refine (World.cell?_of_block (hg.block b hlt ?_)).trans (hc j u hu)
    intro e3
    have := (hown.lt b (by first | exact e3 | exact e3.symm)).1
    simp only at hB
    omega⟩

/-- Bytes. -/
def cellsB (l : List UInt8) : List Value := l.map fun x => .int .u8 (x.toNat : Int)
theorem cellsB_length (l : List UInt8) : (cellsB l).length = l.length := by simp [cellsB]
theorem cellsB_get (l : List UInt8) (i : Nat) (h : i < l.length) : (cellsB l)[i]? = some (.int .u8 (l[i].toNat : Int)) := by simp [cellsB, List.getElem?_eq_getElem h]
theorem cellsB_append (a b : List UInt8) : cellsB (a ++ b) = cellsB a ++ cellsB b := by simp [cellsB]
theorem cellsB_set (l : List UInt8) (i : Nat) (x : UInt8) : cellsB (l.set i x) = (cellsB l).set i (.int .u8 (x.toNat : Int)) := by simp [cellsB, List.map_set]
theorem cellsB_one (l : List UInt8) : ∀ u ∈ cellsB l, u.oneCell' = true := by
  intro u hu
  obtain ⟨x, _, rfl⟩ := List.mem_map.1 hu
  rfl
/-- The byte with an index. -/
def bt (l : List UInt8) (i : Nat) : Nat := (l.getD i 0).toNat
theorem bt_in {l : List UInt8} {i : Nat} (h : i < l.length) : bt l i = l[i].toNat := by unfold bt; simp [List.getD, List.getElem?_eq_getElem h]
theorem bt_lt (l : List UInt8) (i : Nat) : bt l i < 256 := UInt8.toNat_lt _
theorem bt_le (l : List UInt8) (i : Nat) : (bt l i : Int) ≤ 255 := by have := bt_lt l i; omega
theorem bt_u (l : List UInt8) (i : Nat) : (Value.int .u8 ((l.getD i 0).toNat : Int)) = .int .u8 (bt l i : Int) := rfl
/-- A slice that reads as bytes. -/
def BR (w : World) (A : Option Addr) (c : Nat) (l : List UInt8) : Prop := Rd w 1 A c l.length (cellsB l)
section
variable {w w' : World} {c : Nat} {A : Option Addr} {l : List UInt8}
theorem BR.nil (w : World) : BR w none 0 [] := Rd.nil w 1
theorem BR.below (h : BR w A c l) (hb : Below w.heap.size w w') : BR w' A c l := Rd.below h hb
theorem BR.len (h : BR w A c l) : l.length ≤ 140737488351232 := Rd.len h
theorem BR.at_ (h : BR w A c l) {i : Nat} (hi : i < l.length) : ∃ b off, A = some ⟨b, off, none⟩ ∧ b < w.heap.size ∧ w.cell? ⟨b, off + i, none⟩ = some (.int .u8 (bt l i : Int)) := by
  obtain ⟨b, off, e, hb, v, hv, hc⟩ := Rd.at1 h hi
  refine ⟨b, off, e, hb, ?_⟩
  rw [hc, bt_in hi, ← cellsB_get l i hi, hv]
end
/-- The row of bytes that the call owns. -/
def OB (B : Nat) (w : World) (A : Option Addr) (c : Nat) (l : List UInt8) : Prop := w.ownsRow B 5 1 (.slice A l.length c) l.length (cellsB l)
/-- Rows of bytes. -/
structure BRow where
  A : Option Addr
  c : Nat
  l : List UInt8
def BRow.v (r : BRow) : Value := .slice r.A r.l.length r.c
def RR (w : World) (A : Option Addr) (c : Nat) (rs : List BRow) : Prop := Rd w 1 A c rs.length (rs.map BRow.v) ∧ ∀ r ∈ rs, BR w r.A r.c r.l
instance : Inhabited BRow := ⟨⟨none, 0, []⟩⟩
theorem below_drewN {B : Nat} {a w : World} (h : Below B a w) (n : Nat) : Below B a (w.drewN n) := ⟨h.os, h.tape, h.output, h.size, h.block⟩
theorem alloc_bel (w : World) (o : Obj) : Below w.heap.size w (w.alloc o) := (Below.refl _ _).alloc (Nat.le_refl _) o
theorem quiet_left' {P : Program} {f : FuncId} {args : Array Value} {w : World} {n : Nat} {v : Value}
    (h : Calls P f args (w.drewN n) fun e w' => e = .returned v ∧ w.drewN n = w') : Calls P f args (w.drewN n) fun e w'' => e = .returned v ∧ ∃ m, w'' = w.drewN m :=
  h.mono fun _ _ ⟨he, hm⟩ => ⟨he, n, hm.symm⟩
theorem BR.drewN {w : World} {A : Option Addr} {c : Nat} {l : List UInt8} (h : BR w A c l) (n : Nat) : BR (w.drewN n) A c l := Rd.drewN h n
end Go.Proofs.YtinpiodfpnbllaaGreatDoor

/- Bytes and rows of bytes of the call's own: append; a row as a string. -/
namespace Go.Proofs.YtinpiodfpnbllaaGreatDoor
open Go.RowKit
set_option linter.unusedVariables false

theorem u8_info' : (Tryz.prog.info? 5).map (fun i => (i.zero, i.size, i.bytes)) = some (some (.int .u8 0), 1, 1) := by kernel_rfl
theorem OB.below {B : Nat} {w w' : World} {A : Option Addr} {c : Nat} {l : List UInt8} (h : OB B w A c l) (hb : Below w.heap.size w w') : OB B w' A c l := ownsRow_below h hb
theorem OB.br {B : Nat} {w : World} {A : Option Addr} {c : Nat} {l : List UInt8} (h : OB B w A c l) (hl : l.length ≤ 140737488351232) : BR w A c l := Rd.of_own h hl
theorem OB.le_ {B B' : Nat} {w : World} {A : Option Addr} {c : Nat} {l : List UInt8} (h : OB B w A c l) (hB : B' ≤ B) : OB B' w A c l :=
  ⟨h.1, h.2.elim Or.inl (fun ⟨g, cap, cur, hv, hg, r⟩ => Or.inr ⟨g, cap, cur, hv, Nat.le_trans hB hg, r⟩)⟩
theorem OB.nil' (B : Nat) (w : World) : OB B w none 0 [] := World.ownsRow_nil w B _ 1
/-- An empty literal. -/
theorem OB.lit0 (B : Nat) (w : World) (hB : B ≤ w.heap.size) : OB B (w.alloc (.cells #[] 5)) (some ⟨w.heap.size, 0, none⟩) 0 [] := World.ownsRow_lit w #[] 0 hB (by simp [maxLen]) (by simp)
/-- A literal. -/
theorem OB.lit (B : Nat) (w : World) (l : List UInt8) (hB : B ≤ w.heap.size) (hl : l.length ≤ 1000000) {n : Nat} (hn : l.length = n) : OB B (w.alloc (.cells (cellsB l).toArray 5)) (some ⟨w.heap.size, 0, none⟩) n l := by
  subst hn
  exact World.ownsRow_lit (e := 5) (size := 1) w (cellsB l).toArray l.length hB (by simp only [maxLen]; omega) (by simp [cellsB])
theorem BR.src {w : World} {A : Option Addr} {c : Nat} {l : List UInt8} (h : BR w A c l) {n : Nat} (hn : l.length = n) : Src w 1 A n (cellsB l) := by subst hn; exact Rd.src h
theorem src_lit {w : World} (l : List UInt8) {n : Nat} (hn : l.length = n) : Src (w.alloc (.cells (cellsB l).toArray 5)) 1 (some ⟨w.heap.size, 0, none⟩) n (cellsB l) := by
  subst hn
  refine ⟨by simp [cellsB], .inr ⟨_, rfl, fun j u hu => ?_⟩⟩
  rw [Addr.add_lit, Nat.zero_add]
  simpa using hu

theorem wpList_append_bytes (w : World) {ops : Array Oper} {rest : List Oper} {o : Oper} {a : Act} {Q : Exit → Act → World → Prop} (hgd : o.guard = none) (s x : Operand)
    (ho : o.op = .call { callee := .builtin .append, args := #[s, x], argTypes := #[22, 22] })
    (B : Nat) (A : Option Addr) (n c : Nat) (l : List UInt8) (hn : l.length = n) (hs : a.eval s = .slice A n c) (hown : OB B w A c l)
    (X : Option Addr) (m d : Nat) (news : List UInt8) (hm : news.length = m) (hx : a.eval x = .slice X m d) (hsrc : Src w 1 X m (cellsB news))
    (hlen : n + m ≤ 140737488351232) (hB : B ≤ w.heap.size)
    (h : ∀ A' c' w', OB B w' A' c' (l ++ news) → Below B w w' → w.grownBy w' (Value.ownBlock (.slice A n c)) → wpList Tryz.prog ops Q rest (a.put o.dst (.slice A' (n + m) c')) w') : wpList Tryz.prog ops Q (o :: rest) a w := by
  obtain ⟨i0, hi, hz0, hz1, hz2⟩ := info_parts u8_info'
  subst hn hm
  refine wpList_append_src w hgd s x 22 ho B 5 i0 (.int .u8 0) 1 1 Tryz.underlying22 hi hz0 hz1 hz2 rfl (by omega) A l.length c (cellsB l) hs hown X news.length d (cellsB news) hx hsrc (cellsB_one _)
    (by simp only [maxLen]; omega) (by omega) hB ?_
  intro A' c' w' h1 h2 h3
  refine h A' c' w' ?_ (grown_below (Below.refl _ _) hown h2 hB (Nat.le_refl _)) h2
  unfold OB
  rw [cellsB_append, List.length_append]
  exact h1

/-- Some bytes as a string. -/
def strB (l : List UInt8) : ByteArray := ⟨l.toArray⟩
theorem strB_inj {a b : List UInt8} (h : strB a = strB b) : a = b := by
  have := congrArg (fun x : ByteArray => x.data.toList) h
  simpa [strB] using this
theorem run_string_br {w : World} {A : Option Addr} {c : Nat} {l : List UInt8} (h : BR w A c l) (n : Nat) (hn : l.length = n) : (convert 22 9 (.slice A n c)).run Tryz.prog w = .ok (.string (strB l)) w := by
  subst hn
  cases A with
  | none =>
    have hl : l = [] := by
      apply Classical.byContradiction
      intro hne
      obtain ⟨b, off, e, _⟩ := h.2 (by have := List.length_pos_iff.2 hne; omega)
      cases e
    subst hl
    rw [run_convert_bytes_string w 22 9 5 none _ c Tryz.underlying22 Tryz.underlying5 Tryz.underlying9]
    rfl
  | some p =>
    refine run_convert_bytes_back w 22 9 5 p c l Tryz.underlying22 Tryz.underlying5 Tryz.underlying9 (fun j hj => ?_)
    obtain ⟨b, off, e, hb, hc⟩ := h.at_ hj
    injection e with e
    subst e
    rw [Addr.add_lit, hc, bt_in hj]

/-- The rows that the call owns. -/
def RO (B : Nat) (w : World) (A : Option Addr) (c : Nat) (rs : List BRow) : Prop := w.ownsRow B 22 1 (.slice A rs.length c) rs.length (rs.map BRow.v)
theorem rows_info : (Tryz.prog.info? 22).map (fun i => (i.zero, i.size, i.bytes)) = some (some (.slice none 0 0), 1, 24) := by kernel_rfl
theorem RO.below {B : Nat} {w w' : World} {A : Option Addr} {c : Nat} {rs : List BRow} (h : RO B w A c rs) (hb : Below w.heap.size w w') : RO B w' A c rs := ownsRow_below h hb
theorem RO.nil (B : Nat) (w : World) : RO B w none 0 [] := World.ownsRow_nil w B _ 1
theorem wpList_append_row (w : World) {ops : Array Oper} {rest : List Oper} {o : Oper} {a : Act} {Q : Exit → Act → World → Prop} (hgd : o.guard = none) (s x : Operand)
    (ho : o.op = .call { callee := .builtin .append, args := #[s, x], argTypes := #[71, 71] })
    (B : Nat) (A : Option Addr) (n c : Nat) (rs : List BRow) (hn : rs.length = n) (hs : a.eval s = .slice A n c) (hown : RO B w A c rs)
    (r : BRow) (X : Option Addr) (d : Nat) (hx : a.eval x = .slice X 1 d) (hsrc : Src w 1 X 1 [r.v])
    (hlen : (n + 1) * 24 ≤ 140737488355328) (hB : B ≤ w.heap.size)
    (h : ∀ A' c' w', RO B w' A' c' (rs ++ [r]) → Below B w w' → w.grownBy w' (Value.ownBlock (.slice A n c)) → wpList Tryz.prog ops Q rest (a.put o.dst (.slice A' (n + 1) c')) w') : wpList Tryz.prog ops Q (o :: rest) a w := by
  obtain ⟨i0, hi, hz0, hz1, hz2⟩ := info_parts rows_info
  subst hn
  refine wpList_append_src w hgd s x 71 ho B 22 i0 (.slice none 0 0) 1 24 Tryz.underlying71 hi hz0 hz1 hz2 rfl (by omega) A rs.length c (rs.map BRow.v) hs hown X 1 d [r.v] hx hsrc (by intro u hu; rw [List.mem_singleton.1 hu]; rfl)
    (by simp only [maxLen]; omega) hlen hB ?_
  intro A' c' w' h1 h2 h3
  refine h A' c' w' ?_ (grown_below (Below.refl _ _) hown h2 hB (Nat.le_refl _)) h2
  unfold RO
  rw [List.map_append, List.length_append]
  exact h1
theorem RO.rr {B : Nat} {w : World} {A : Option Addr} {c : Nat} {rs : List BRow} (h : RO B w A c rs) (hl : rs.length ≤ 140737488351232) (hb : ∀ r ∈ rs, BR w r.A r.c r.l) : RR w A c rs := ⟨Rd.of_own h hl, hb⟩
end Go.Proofs.YtinpiodfpnbllaaGreatDoor

/- Arrays of integers and keys, compared. -/
namespace Go.Proofs.YtinpiodfpnbllaaGreatDoor
open Go.RowKit
set_option linter.unusedVariables false

theorem all_range_int : ∀ (xs ys : List Int), xs.length = ys.length → ((List.range xs.length).all fun i => xs.getD i 0 == ys.getD i 0) = (xs == ys)
  | [], [], _ => rfl
  | x :: xs, y :: ys, h => by
    have ih := all_range_int xs ys (by simpa using h)
    rw [List.length_cons, List.range_succ_eq_map, List.all_cons, List.all_map]
    simp only [List.getD_cons_zero, Function.comp_def, List.getD_cons_succ, ih]
    simp [List.cons_beq_cons]
  | [], _ :: _, h => by simp at h
  | _ :: _, [], h => by simp at h
theorem run_equalIn_ints {P : Program} (w : World) (d : Nat) (t e : TypeId) (k : IntKind) (n : Nat) (ht : P.underlying t = some (.array n e)) (he : P.underlying e = some (.int k)) (hsz : ∀ w, (sizeOf e).run P w = .ok 1 w)
    (xs ys : List Int) (hx : xs.length = n) (hy : ys.length = n) :
    (Op.equalIn (d + 2) t (.agg (xs.map (Value.int k)).toArray) (.agg (ys.map (Value.int k)).toArray)).run P w = .ok (xs == ys) w := by
  rw [← all_range_int xs ys (hx.trans hy.symm), hx, List.range_eq_range', Op.equalIn]
  simp only [Sem.run_bind, run_underlying ht, Result.andThen_ok, hsz, Std.Legacy.Range.forIn_eq_forIn_range', Std.Legacy.Range.size, Nat.sub_zero, Nat.add_sub_cancel, Nat.div_one]
  have hl : ∀ i ∈ List.range' 0 n 1, i < n := fun i hi => by simpa using (List.mem_range'_1.1 hi).2
  generalize List.range' 0 n 1 = l at hl ⊢
  induction l with
  | nil => simp
  | cons i l ih =>
    have hi : i < n := hl i (by simp)
    have px : (part e (xs.map (Value.int k)).toArray (i * 1)).run P w = .ok (.int k (xs.getD i 0)) w := by
      simp [part, isAgg, run_underlying he, List.getD, List.getElem?_eq_getElem (show i < xs.length by omega)]
    have py : (part e (ys.map (Value.int k)).toArray (i * 1)).run P w = .ok (.int k (ys.getD i 0)) w := by
      simp [part, isAgg, run_underlying he, List.getD, List.getElem?_eq_getElem (show i < ys.length by omega)]
    have pe : (Op.equalIn (d + 1) e (.int k (xs.getD i 0)) (.int k (ys.getD i 0))).run P w = .ok (xs.getD i 0 == ys.getD i 0) w := by
      rw [run_equalIn_int w d e k k _ _ he]
    simp only [List.forIn_cons, Sem.run_bind, px, py, pe, Result.andThen_ok, List.all_cons]
    cases hb : (xs.getD i 0 == ys.getD i 0)
    · simp
    · simp only [Bool.not_true, Bool.false_eq_true, if_false, Sem.run_pure, Result.andThen_ok, Bool.true_and]
      exact ih fun j hj => hl j (by simp [hj])
theorem size_one {P : Program} {e : TypeId} (h : (P.info? e).map (fun i => i.size) = some 1) : ∀ w, (sizeOf e).run P w = .ok 1 w := by
  intro w
  cases hi : P.info? e with
  | none => rw [hi] at h; cases h
  | some i =>
    rw [hi] at h
    injection h with h
    simp [sizeOf, typeInfo, hi, h]
/-- Two keys. -/
theorem run_eql_keys (w : World) (a b : List UInt8) (ha : a.length = 16) (hb : b.length = 16) : (binOp .eql 24 (.agg (cellsB a).toArray) (.agg (cellsB b).toArray)).run Tryz.prog w = .ok (.bool (a == b)) w := by
  exact run_eql_bytes w 24 5 16 Tryz.underlying24 Tryz.underlying5 (size_one (by kernel_rfl)) a b ha hb
theorem run_neq_keys (w : World) (a b : List UInt8) (ha : a.length = 16) (hb : b.length = 16) : (binOp .neq 24 (.agg (cellsB a).toArray) (.agg (cellsB b).toArray)).run Tryz.prog w = .ok (.bool (!(a == b))) w := by
  have := run_equalIn_bytes (P := Tryz.prog) w 9998 24 5 16 Tryz.underlying24 Tryz.underlying5 (size_one (by kernel_rfl)) a b ha hb
  rw [run_neq_struct]
  unfold cellsB
  have e : (fun x : UInt8 => Value.int .u8 (x.toNat : Int)) = Extern.Stop.cell := rfl
  rw [e, this]
  rfl
end Go.Proofs.YtinpiodfpnbllaaGreatDoor

/- The block cipher in plain words: rounds, round keys, blocks; undoing it. -/
namespace Go.Proofs.YtinpiodfpnbllaaGreatDoor
set_option linter.unusedVariables false

abbrev W2 := UInt64 × UInt64
def rotr8 (x : UInt64) : UInt64 := x >>> 8 ||| x <<< 56
def rotl8 (x : UInt64) : UInt64 := x <<< 8 ||| x >>> 56
def rotl3 (x : UInt64) : UInt64 := x <<< 3 ||| x >>> 61
def rotr3 (x : UInt64) : UInt64 := x >>> 3 ||| x <<< 61
theorem or_add (m : Nat) {a b : Nat} (hb : b < 2 ^ m) : a * 2 ^ m ||| b = a * 2 ^ m + b := by
  have := Nat.two_pow_add_eq_or_of_lt (i := m) (b := b) hb a
  rw [Nat.mul_comm a, ← this]
theorem toNat_rotr8 (x : UInt64) : (rotr8 x).toNat = (x.toNat % 256) * 72057594037927936 + x.toNat / 256 := by
  have h := x.toNat_lt
  simp only [rotr8, UInt64.toNat_or, UInt64.toNat_shiftRight, UInt64.toNat_shiftLeft]
  rw [show (8 : UInt64).toNat % 64 = 8 from rfl, show (56 : UInt64).toNat % 64 = 56 from rfl, Nat.shiftRight_eq_div_pow, Nat.shiftLeft_eq, Nat.or_comm]
  rw [show x.toNat * 2 ^ 56 % 2 ^ 64 = (x.toNat % 256) * 2 ^ 56 from by omega, or_add 56 (by omega)]
theorem toNat_rotl8 (x : UInt64) : (rotl8 x).toNat = (x.toNat % 72057594037927936) * 256 + x.toNat / 72057594037927936 := by
  have h := x.toNat_lt
  simp only [rotl8, UInt64.toNat_or, UInt64.toNat_shiftRight, UInt64.toNat_shiftLeft]
  rw [show (8 : UInt64).toNat % 64 = 8 from rfl, show (56 : UInt64).toNat % 64 = 56 from rfl, Nat.shiftRight_eq_div_pow, Nat.shiftLeft_eq]
  rw [show x.toNat * 2 ^ 8 % 2 ^ 64 = (x.toNat % 2 ^ 56) * 2 ^ 8 from by omega, or_add 8 (by omega)]
theorem toNat_rotl3 (x : UInt64) : (rotl3 x).toNat = (x.toNat % 2305843009213693952) * 8 + x.toNat / 2305843009213693952 := by
  have h := x.toNat_lt
  simp only [rotl3, UInt64.toNat_or, UInt64.toNat_shiftRight, UInt64.toNat_shiftLeft]
  rw [show (3 : UInt64).toNat % 64 = 3 from rfl, show (61 : UInt64).toNat % 64 = 61 from rfl, Nat.shiftRight_eq_div_pow, Nat.shiftLeft_eq]
  rw [show x.toNat * 2 ^ 3 % 2 ^ 64 = (x.toNat % 2 ^ 61) * 2 ^ 3 from by omega, or_add 3 (by omega)]
theorem toNat_rotr3 (x : UInt64) : (rotr3 x).toNat = (x.toNat % 8) * 2305843009213693952 + x.toNat / 8 := by
  have h := x.toNat_lt
  simp only [rotr3, UInt64.toNat_or, UInt64.toNat_shiftRight, UInt64.toNat_shiftLeft]
  rw [show (3 : UInt64).toNat % 64 = 3 from rfl, show (61 : UInt64).toNat % 64 = 61 from rfl, Nat.shiftRight_eq_div_pow, Nat.shiftLeft_eq, Nat.or_comm]
  rw [show x.toNat * 2 ^ 61 % 2 ^ 64 = (x.toNat % 8) * 2 ^ 61 from by omega, or_add 61 (by omega)]
theorem rotl8_rotr8 (x : UInt64) : rotl8 (rotr8 x) = x := by
  apply UInt64.toNat_inj.1
  have h := x.toNat_lt
  rw [toNat_rotl8, toNat_rotr8]
  omega
theorem rotr3_rotl3 (x : UInt64) : rotr3 (rotl3 x) = x := by
  apply UInt64.toNat_inj.1
  have h := x.toNat_lt
  rw [toNat_rotr3, toNat_rotl3]
  omega
theorem rotr8_rotl8 (x : UInt64) : rotr8 (rotl8 x) = x := by
  apply UInt64.toNat_inj.1
  have h := x.toNat_lt
  rw [toNat_rotr8, toNat_rotl8]
  omega
theorem rotl3_rotr3 (x : UInt64) : rotl3 (rotr3 x) = x := by
  apply UInt64.toNat_inj.1
  have h := x.toNat_lt
  rw [toNat_rotl3, toNat_rotr3]
  omega

/-- A round, and back. -/
def rnd (k : UInt64) (p : W2) : W2 := ((rotr8 p.1 + p.2) ^^^ k, rotl3 p.2 ^^^ ((rotr8 p.1 + p.2) ^^^ k))
def bck (k : UInt64) (p : W2) : W2 := (rotl8 ((p.1 ^^^ k) - rotr3 (p.1 ^^^ p.2)), rotr3 (p.1 ^^^ p.2))
theorem xor_xor_self (a b : UInt64) : a ^^^ (b ^^^ a) = b := by rw [UInt64.xor_comm b a, ← UInt64.xor_assoc, UInt64.xor_self, UInt64.zero_xor]
theorem xor_xor_right (a b : UInt64) : (a ^^^ b) ^^^ b = a := by rw [UInt64.xor_assoc, UInt64.xor_self, UInt64.xor_zero]
theorem bck_rnd (k : UInt64) (p : W2) : bck k (rnd k p) = p := by
  obtain ⟨x, y⟩ := p
  simp only [bck, rnd]
  rw [xor_xor_self, xor_xor_right, rotr3_rotl3, UInt64.add_sub_cancel, rotl8_rotr8]
theorem rnd_bck (k : UInt64) (p : W2) : rnd k (bck k p) = p := by
  obtain ⟨x, y⟩ := p
  simp only [bck, rnd]
  rw [rotr8_rotl8, UInt64.sub_add_cancel, xor_xor_right, rotl3_rotr3, UInt64.xor_comm x y, xor_xor_right]

/-- The state of the round keys after i rounds. -/
def ksS (k : W2) : Nat → W2
  | 0 => k
  | i + 1 => rnd (UInt64.ofNat i) (ksS k i)
/-- The words after i rounds. -/
def enW (k p : W2) : Nat → W2
  | 0 => p
  | i + 1 => rnd (ksS k i).2 (enW k p i)
/-- The words when the last i of 32 rounds have been undone. -/
def deW (k p : W2) : Nat → W2
  | 0 => p
  | i + 1 => bck (ksS k (31 - i)).2 (deW k p i)
theorem deW_enW (k p : W2) (i : Nat) (h : i ≤ 32) : deW k (enW k p 32) i = enW k p (32 - i) := by
  induction i with
  | zero => rfl
  | succ i ih =>
    rw [deW, ih (by omega), show 32 - i = (31 - i) + 1 from by omega, enW, bck_rnd]
    congr 1
    omega

/-- The number in some bytes, the highest first. -/
def wd (l : List UInt8) : UInt64 := l.foldl (fun n b => 256 * n + b.toUInt64) 0
/-- The bytes of a word, the highest first. -/
def by8 (x : UInt64) : List UInt8 := [(x >>> 56).toUInt8, (x >>> 48).toUInt8, (x >>> 40).toUInt8, (x >>> 32).toUInt8, (x >>> 24).toUInt8, (x >>> 16).toUInt8, (x >>> 8).toUInt8, x.toUInt8]
theorem by8_length (x : UInt64) : (by8 x).length = 8 := rfl
theorem wd_snoc (l : List UInt8) (b : UInt8) : wd (l ++ [b]) = 256 * wd l + b.toUInt64 := by simp [wd]
theorem shl8_or (n : UInt64) (b : UInt8) : n <<< 8 ||| b.toUInt64 = 256 * n + b.toUInt64 := by
  apply UInt64.toNat_inj.1
  have h := n.toNat_lt
  have h2 := b.toNat_lt
  simp only [UInt64.toNat_or, UInt64.toNat_shiftLeft, UInt64.toNat_add, UInt64.toNat_mul, UInt8.toNat_toUInt64]
  rw [show (8 : UInt64).toNat % 64 = 8 from rfl, show (256 : UInt64).toNat = 256 from rfl, Nat.shiftLeft_eq]
  rw [show n.toNat * 2 ^ 8 % 2 ^ 64 = (n.toNat % 2 ^ 56) * 2 ^ 8 from by omega, or_add 8 (by omega)]
  omega
theorem toNat_shr (x : UInt64) (k : Nat) (hk : k < 64) : (x >>> (UInt64.ofNat k)).toNat = x.toNat / 2 ^ k := by
  rw [UInt64.toNat_shiftRight, Nat.shiftRight_eq_div_pow]
  simp [UInt64.toNat_ofNat', Nat.mod_eq_of_lt (show k < 18446744073709551616 by omega), Nat.mod_eq_of_lt hk]
theorem wd_by8 (x : UInt64) : wd (by8 x) = x := by
  apply UInt64.toNat_inj.1
  have h := x.toNat_lt
  have t : ∀ k, k < 64 → (x >>> (UInt64.ofNat k)).toNat = x.toNat / 2 ^ k := toNat_shr x
  have t1 := t 56 (by omega)
  have t2 := t 48 (by omega)
  have t3 := t 40 (by omega)
  have t4 := t 32 (by omega)
  have t5 := t 24 (by omega)
  have t6 := t 16 (by omega)
  have t7 := t 8 (by omega)
  simp only [wd, by8, List.foldl, UInt64.toNat_add, UInt64.toNat_mul, UInt8.toNat_toUInt64, UInt64.toNat_toUInt8]
  simp only [show (UInt64.ofNat 56) = 56 from rfl, show (UInt64.ofNat 48) = 48 from rfl, show (UInt64.ofNat 40) = 40 from rfl, show (UInt64.ofNat 32) = 32 from rfl, show (UInt64.ofNat 24) = 24 from rfl, show (UInt64.ofNat 16) = 16 from rfl, show (UInt64.ofNat 8) = 8 from rfl] at t1 t2 t3 t4 t5 t6 t7
  rw [t1, t2, t3, t4, t5, t6, t7, show (256 : UInt64).toNat = 256 from rfl, show (0 : UInt64).toNat = 0 from rfl]
  omega
theorem wd_toNat (l : List UInt8) : (wd l).toNat = l.foldl (fun n b => 256 * n + b.toNat) 0 % 18446744073709551616 := by
  suffices ∀ (l : List UInt8) (a : UInt64) (m : Nat), a.toNat = m % 18446744073709551616 → (l.foldl (fun n b => 256 * n + b.toUInt64) a).toNat = l.foldl (fun n b => 256 * n + b.toNat) m % 18446744073709551616 from this l 0 0 rfl
  intro l
  induction l with
  | nil => exact fun a m h => h
  | cons b l ih =>
    intro a m h
    refine ih _ _ ?_
    simp only [UInt64.toNat_add, UInt64.toNat_mul, UInt8.toNat_toUInt64]
    rw [h, show (256 : UInt64).toNat = 256 from rfl]
    have := b.toNat_lt
    omega
theorem by8_wd (a b c d e f g h : UInt8) : by8 (wd [a, b, c, d, e, f, g, h]) = [a, b, c, d, e, f, g, h] := by
  have ha := a.toNat_lt
  have hb := b.toNat_lt
  have hc := c.toNat_lt
  have hd := d.toNat_lt
  have he := e.toNat_lt
  have hf := f.toNat_lt
  have hg := g.toNat_lt
  have hh := h.toNat_lt
  have hw := wd_toNat [a, b, c, d, e, f, g, h]
  simp only [List.foldl] at hw
  generalize wd [a, b, c, d, e, f, g, h] = x at hw
  have t := toNat_shr x
  have t1 := t 56 (by omega)
  have t2 := t 48 (by omega)
  have t3 := t 40 (by omega)
  have t4 := t 32 (by omega)
  have t5 := t 24 (by omega)
  have t6 := t 16 (by omega)
  have t7 := t 8 (by omega)
  simp only [show (UInt64.ofNat 56) = 56 from rfl, show (UInt64.ofNat 48) = 48 from rfl, show (UInt64.ofNat 40) = 40 from rfl, show (UInt64.ofNat 32) = 32 from rfl, show (UInt64.ofNat 24) = 24 from rfl, show (UInt64.ofNat 16) = 16 from rfl, show (UInt64.ofNat 8) = 8 from rfl] at t1 t2 t3 t4 t5 t6 t7
  unfold by8
  simp only [List.cons.injEq, and_true, ← UInt8.toNat_inj, UInt64.toNat_toUInt8, t1, t2, t3, t4, t5, t6, t7]
  refine ⟨?_, ?_, ?_, ?_, ?_, ?_, ?_, ?_⟩ <;> omega

/-- The words of a block; the block of two words. -/
def wds (b : List UInt8) : W2 := (wd (b.take 8), wd (b.drop 8))
def blk (p : W2) : List UInt8 := by8 p.1 ++ by8 p.2
theorem blk_length (p : W2) : (blk p).length = 16 := rfl
theorem wds_blk (p : W2) : wds (blk p) = p := by
  obtain ⟨x, y⟩ := p
  show (wd (by8 x), wd (by8 y)) = (x, y)
  rw [wd_by8, wd_by8]
theorem blk_wds {b : List UInt8} (h : b.length = 16) : blk (wds b) = b := by
  match b, h with
  | [b0, b1, b2, b3, b4, b5, b6, b7, b8, b9, b10, b11, b12, b13, b14, b15], _ =>
    show by8 (wd [b0, b1, b2, b3, b4, b5, b6, b7]) ++ by8 (wd [b8, b9, b10, b11, b12, b13, b14, b15]) = _
    rw [by8_wd, by8_wd]
    rfl
def encS (k b : List UInt8) : List UInt8 := blk (enW (wds k) (wds b) 32)
def decS (k b : List UInt8) : List UInt8 := blk (deW (wds k) (wds b) 32)
theorem encS_length (k b : List UInt8) : (encS k b).length = 16 := rfl
theorem decS_length (k b : List UInt8) : (decS k b).length = 16 := rfl
theorem decS_encS (k : List UInt8) {b : List UInt8} (h : b.length = 16) : decS k (encS k b) = b := by
  unfold decS encS
  rw [wds_blk, deW_enW _ _ _ (by omega)]
  exact blk_wds h
/-- The block of a tag, a counter and a number; what is derived; a number below most. -/
def tagS (t : UInt8) (c n : UInt64) : List UInt8 := blk (t.toUInt64 <<< 56 ||| c, n)
def derS (k : List UInt8) (t : UInt8) (n : UInt64) : List UInt8 := encS k (tagS t 0 n)
def numS (k : List UInt8) (n most : UInt64) : UInt64 := if most = 0 then 0 else (wds (derS k 3 n)).1 % most
end Go.Proofs.YtinpiodfpnbllaaGreatDoor

/- Keys in memory: a whole row out of a block and into it, as the walk meets them. -/
namespace Go.Proofs.YtinpiodfpnbllaaGreatDoor
open Go.RowKit
set_option linter.unusedVariables false

/-- The cells of a block; whether they may be written. -/
def rowAt (w : World) (g : Nat) : Array Value := match w.heap[g]? with | some (.cells cs _ _) => cs | _ => #[]
def rowFree (w : World) (g : Nat) : Bool := match w.heap[g]? with | some (.cells _ _ fr) => fr == (0, 0) | _ => false
theorem rowAt_some {w : World} {g : Nat} (h : (rowAt w g).size = 16) : ∃ t fr, w.heap[g]? = some (.cells (rowAt w g) t fr) := by
  unfold rowAt at h ⊢
  split
  · rename_i cs t fr he
    exact ⟨t, fr, by rw [he]⟩
  · rename_i he
    split at h
    · rename_i cs t fr he2
      exact absurd he2 (he cs t fr)
    · simp at h
theorem rowAt_alloc_new (w : World) (cs : Array Value) (t : TypeId) : rowAt (w.alloc (.cells cs t)) w.heap.size = cs := by
  unfold rowAt; rw [heap_alloc_new]
theorem rowAt_alloc_old (w : World) (o : Obj) (g : Nat) (h : g < w.heap.size) : rowAt (w.alloc o) g = rowAt w g := by
  unfold rowAt; rw [Below.heap_alloc w o g h]
theorem rowFree_alloc_new (w : World) (cs : Array Value) (t : TypeId) : rowFree (w.alloc (.cells cs t)) w.heap.size = true := by
  unfold rowFree; rw [heap_alloc_new]; rfl
theorem rowFree_alloc_old (w : World) (o : Obj) (g : Nat) (h : g < w.heap.size) : rowFree (w.alloc o) g = rowFree w g := by
  unfold rowFree; rw [Below.heap_alloc w o g h]
theorem rowAt_below {B : Nat} {w w' : World} (h : Below B w w') {g : Nat} (hg : g < B) : rowAt w' g = rowAt w g := by unfold rowAt; rw [h.block g hg]
theorem rowFree_below {B : Nat} {w w' : World} (h : Below B w w') {g : Nat} (hg : g < B) : rowFree w' g = rowFree w g := by unfold rowFree; rw [h.block g hg]
theorem rowAt_drew (w : World) (g : Nat) : rowAt w.drew g = rowAt w g := rfl
theorem rowAt_drewN (w : World) (n g : Nat) : rowAt (w.drewN n) g = rowAt w g := rfl
theorem rowFree_drew (w : World) (g : Nat) : rowFree w.drew g = rowFree w g := rfl
theorem rowFree_drewN (w : World) (n g : Nat) : rowFree (w.drewN n) g = rowFree w g := rfl
theorem cell_row {w : World} {g j : Nat} (h : (rowAt w g).size = 16) : w.cell? ⟨g, j, none⟩ = (rowAt w g)[j]? := by
  obtain ⟨t, fr, he⟩ := rowAt_some h
  exact cell_of_row w g j _ t fr he

theorem run_loadCells_key {P : Program} (w : World) (g : Nat) (h : (rowAt w g).size = 16) : (loadCellsFrom ⟨g, 0, none⟩ 0 16 #[]).run P w = .ok (rowAt w g) w := by
  obtain ⟨t, fr, he⟩ := rowAt_some h
  have := run_loadCells_list (P := P) w ⟨g, 0, none⟩ (rowAt w g).toList (fun j v hv => by
    rw [Addr.add_lit, Nat.zero_add, cell_of_row w g j _ t fr he]
    simpa using hv)
  rw [Array.length_toList, h] at this
  simpa [loadCells] using this
theorem run_storeCells_key {P : Program} (w : World) (g : Nat) (l : List Value) (hl : l.length = 16) (h1 : l.all (·.oneCell') = true) (h : (rowAt w g).size = 16) (hf : rowFree w g = true) : (storeCells ⟨g, 0, none⟩ l 0).run P w = .ok () (w.setRow g l.toArray) := by
  obtain ⟨t, fr, he⟩ := rowAt_some h
  have hfr : fr = (0, 0) := by
    unfold rowFree at hf
    rw [he] at hf
    simpa using hf
  subst hfr
  exact run_storeCells_from (P := P) g t l 0 (rowAt w g) w he (by omega) (fun v hv => List.all_eq_true.1 h1 v hv)
theorem run_storeCells_new {P : Program} (w : World) (cs : Array Value) (t : TypeId) (l : List Value) (hl : l.length = 16) (h1 : l.all (·.oneCell') = true) (hc : cs.size = 16) : (storeCells ⟨w.heap.size, 0, none⟩ l 0).run P (w.alloc (.cells cs t)) = .ok () (w.alloc (.cells l.toArray t)) := by
  rw [run_storeCells_key _ _ l hl h1 (by rw [rowAt_alloc_new]; exact hc) (rowFree_alloc_new w cs t), World.setRow_alloc_new]
theorem setRow_alloc_new (w : World) (c c' : Array Value) (t : TypeId) : (w.alloc (.cells c t)).setRow w.heap.size c' = w.alloc (.cells c' t) := World.setRow_alloc_new w c c' t
theorem setRow_alloc_old (w : World) (o : Obj) (g : Nat) (cs : Array Value) (h : g < w.heap.size) : (w.alloc o).setRow g cs = (w.setRow g cs).alloc o := by
  simp only [World.setRow, World.alloc]
  congr 1
  apply Array.ext_getElem?
  intro i
  rw [Array.getElem?_modify, Array.getElem?_push, Array.getElem?_push, Array.getElem?_modify]
  by_cases hi : i = w.heap.size
  · subst hi
    have : ¬ g = w.heap.size := by omega
    simp [this]
  · by_cases hg : g = i
    · subst hg
      simp [hi]
    · simp [hi, hg]
/-- A whole key that was read cell by cell. -/
theorem fold16 (l : List Value) (p0 : 0 < l.length) (p1 : 1 < l.length) (p2 : 2 < l.length) (p3 : 3 < l.length) (p4 : 4 < l.length) (p5 : 5 < l.length) (p6 : 6 < l.length) (p7 : 7 < l.length) (p8 : 8 < l.length) (p9 : 9 < l.length) (p10 : 10 < l.length) (p11 : 11 < l.length) (p12 : 12 < l.length) (p13 : 13 < l.length) (p14 : 14 < l.length) (p15 : 15 < l.length) (h : l.length = 16) : (#[l[0]'p0, l[1]'p1, l[2]'p2, l[3]'p3, l[4]'p4, l[5]'p5, l[6]'p6, l[7]'p7, l[8]'p8, l[9]'p9, l[10]'p10, l[11]'p11, l[12]'p12, l[13]'p13, l[14]'p14, l[15]'p15] : Array Value) = l.toArray := by
  match l, h with
  | [_, _, _, _, _, _, _, _, _, _, _, _, _, _, _, _], _ => rfl
theorem fold16B (b : List UInt8) (h : b.length = 16) {p0 : 0 < (cellsB b).length} {p1 : 1 < (cellsB b).length} {p2 : 2 < (cellsB b).length} {p3 : 3 < (cellsB b).length} {p4 : 4 < (cellsB b).length} {p5 : 5 < (cellsB b).length} {p6 : 6 < (cellsB b).length} {p7 : 7 < (cellsB b).length} {p8 : 8 < (cellsB b).length} {p9 : 9 < (cellsB b).length} {p10 : 10 < (cellsB b).length} {p11 : 11 < (cellsB b).length} {p12 : 12 < (cellsB b).length} {p13 : 13 < (cellsB b).length} {p14 : 14 < (cellsB b).length} {p15 : 15 < (cellsB b).length} : (#[(cellsB b)[0]'p0, (cellsB b)[1]'p1, (cellsB b)[2]'p2, (cellsB b)[3]'p3, (cellsB b)[4]'p4, (cellsB b)[5]'p5, (cellsB b)[6]'p6, (cellsB b)[7]'p7, (cellsB b)[8]'p8, (cellsB b)[9]'p9, (cellsB b)[10]'p10, (cellsB b)[11]'p11, (cellsB b)[12]'p12, (cellsB b)[13]'p13, (cellsB b)[14]'p14, (cellsB b)[15]'p15] : Array Value) = (cellsB b).toArray := fold16 _ _ _ _ _ _ _ _ _ _ _ _ _ _ _ _ _ (by rw [cellsB_length, h])

/-- The key of zeros. -/
def zeroK : List UInt8 := List.replicate 16 0
theorem zeroK_length : zeroK.length = 16 := rfl
/-- Block g is just these cells, none frozen. -/
def Blk (w : World) (g : Nat) (t : TypeId) (cs : Array Value) : Prop := w.heap[g]? = some (.cells cs t (0, 0))
section
variable {w w' : World} {g : Nat} {t : TypeId} {cs : Array Value}
theorem Blk.lt (h : Blk w g t cs) : g < w.heap.size := by
  rcases Nat.lt_or_ge g w.heap.size with hlt | hge
  · exact hlt
  · unfold Blk at h; rw [Array.getElem?_eq_none hge] at h; cases h
theorem Blk.cell (h : Blk w g t cs) (i : Nat) : w.cell? ⟨g, i, none⟩ = cs[i]? := cell_of_row w g i cs t (0, 0) h
theorem Blk.frozen (h : Blk w g t cs) (i : Nat) : w.frozen? ⟨g, i, none⟩ = false := by
  unfold Blk at h
  simp [World.frozen?, h]
theorem Blk.new (w : World) (t : TypeId) (cs : Array Value) : Blk (w.alloc (.cells cs t)) w.heap.size t cs := heap_alloc_new w _
theorem Blk.drew (h : Blk w g t cs) : Blk w.drew g t cs := h
theorem Blk.drewN (h : Blk w g t cs) (n : Nat) : Blk (w.drewN n) g t cs := h
theorem Blk.alloc (h : Blk w g t cs) (o : Obj) : Blk (w.alloc o) g t cs := (Below.heap_alloc w o g h.lt).trans h
theorem Blk.set_ (h : Blk w g t cs) (i : Nat) (u : Value) : Blk (w.setCell ⟨g, i, none⟩ u) g t (cs.setIfInBounds i u) := by
  unfold Blk at h ⊢
  simp [World.setCell, Array.getElem?_modify, h]
theorem Blk.far (h : Blk w g t cs) {p : Addr} (hp : g ≠ p.block) (u : Value) : Blk (w.setCell p u) g t cs := (Below.heap_setCell w p u g hp).trans h
theorem Blk.below {B : Nat} (h : Blk w g t cs) (hb : Below B w w') (hg : g < B) : Blk w' g t cs := (hb.block g hg).trans h
theorem Blk.below' (h : Blk w g t cs) (hb : Below w.heap.size w w') : Blk w' g t cs := h.below hb h.lt
theorem Blk.row (h : Blk w g t cs) : rowAt w g = cs := by unfold rowAt; unfold Blk at h; rw [h]
theorem Blk.free (h : Blk w g t cs) : rowFree w g = true := by unfold rowFree; unfold Blk at h; rw [h]; rfl
theorem Blk.setRow (h : Blk w g t cs) (cs' : Array Value) : Blk (w.setRow g cs') g t cs' := setRow_heap w g cs cs' t (0, 0) h
end
theorem below_setRow {B : Nat} {a w : World} (h : Below B a w) {g : Nat} (hg : B ≤ g) (cs : Array Value) : Below B a (w.setRow g cs) :=
  ⟨h.os, h.tape, h.output, by simpa using h.size, fun k hk => (setRow_other w g k cs (by omega)).trans (h.block k hk)⟩
theorem blk_b0 (w : World) (cs : Array Value) (t : TypeId) (o1 : Obj) : Blk ((w.alloc (.cells cs t)).alloc o1) w.heap.size t cs := (Blk.new w t cs).alloc o1
theorem blk_b1 (w : World) (o0 : Obj) (cs : Array Value) (t : TypeId) : Blk ((w.alloc o0).alloc (.cells cs t)) (w.heap.size + 1) t cs := by
  have := Blk.new (w.alloc o0) t cs
  rwa [World.size_alloc] at this
theorem blk_a0 (w : World) (cs : Array Value) (t : TypeId) (o1 o2 : Obj) : Blk (((w.alloc (.cells cs t)).alloc o1).alloc o2) w.heap.size t cs := (blk_b0 w cs t o1).alloc o2
theorem blk_a1 (w : World) (o0 : Obj) (cs : Array Value) (t : TypeId) (o2 : Obj) : Blk (((w.alloc o0).alloc (.cells cs t)).alloc o2) (w.heap.size + 1) t cs := (blk_b1 w o0 cs t).alloc o2
theorem blk_a2 (w : World) (o0 o1 : Obj) (cs : Array Value) (t : TypeId) : Blk (((w.alloc o0).alloc o1).alloc (.cells cs t)) (w.heap.size + 1 + 1) t cs := by
  have := blk_b1 (w.alloc o0) o1 cs t
  rwa [World.size_alloc] at this
theorem alloc3_bel (w : World) (o0 o1 o2 : Obj) : Below w.heap.size w (((w.alloc o0).alloc o1).alloc o2) := (((Below.refl _ _).alloc (Nat.le_refl _) _).alloc (by simp) _).alloc (by simp; omega) _
theorem alloc2_bel (w : World) (o0 o1 : Obj) : Below w.heap.size w ((w.alloc o0).alloc o1) := ((Below.refl _ _).alloc (Nat.le_refl _) _).alloc (by simp) _
/-- A key in a block: bytes. -/
theorem bytes_get (b : List UInt8) (i : Nat) (h : i < b.length) : (cellsB b).toArray[i]? = some (.int .u8 ((b.getD i 0).toNat : Int)) := by
  simp [cellsB, List.getD, List.getElem?_eq_getElem h]
end Go.Proofs.YtinpiodfpnbllaaGreatDoor

/- Rows of bytes that the call makes; bytes with an error. -/
namespace Go.Proofs.YtinpiodfpnbllaaGreatDoor
open Go.RowKit
set_option linter.unusedVariables false

/-- A row of zeros. -/
theorem made_bytes (n : Nat) : madeCells #[Value.int .u8 0] n = (cellsB (List.replicate n 0)).toArray := by
  apply Array.toList_inj.1
  rw [toList_madeCells_one]
  simp [cellsB]
theorem Blk.ob {B : Nat} {w : World} {g : Nat} {l : List UInt8} {n c : Nat} (h : Blk w g 5 (cellsB l).toArray) (hB : B ≤ g) (hn : l.length = n) (hc : c = n) (hc2 : n ≤ 1000000) : OB B w (some ⟨g, 0, none⟩) c l := by
  subst hn hc
  exact ⟨by simp [cellsB], .inr ⟨g, _, _, rfl, hB, h, Nat.le_refl _, by simp only [maxLen]; omega, by simp [cellsB], List.take_of_length_le (by simp [cellsB])⟩⟩
theorem ofNat_toNat_int {x : Int} (h0 : 0 ≤ x) (h1 : x ≤ 1000) : ((UInt64.ofNat x.toNat).toNat : Int) = x := by
  rw [UInt64.toNat_ofNat', Nat.mod_eq_of_lt (by omega)]
  omega
/-- What both hand back. -/
def BytesErr (B : Nat) (r : List UInt8 × Int) (e : Ending) (w' : World) : Prop := ∃ A c, e = .returned (.tuple #[.slice A r.1.length c, .int .i64 r.2]) ∧ OB B w' A c r.1
theorem bytesErr_nil (B : Nat) (w : World) (x : Int) {r : List UInt8 × Int} (h : r = ([], x)) : BytesErr B r (.returned (.tuple #[.slice none 0 0, .int .i64 x])) w := by
  subst h
  exact ⟨none, 0, rfl, OB.nil' _ _⟩
end Go.Proofs.YtinpiodfpnbllaaGreatDoor

/- Recordings as cells; the load of a field of 16 bytes. -/
namespace Go.Proofs.YtinpiodfpnbllaaGreatDoor
open Go.RowKit
set_option linter.unusedVariables false

theorem quiet_mid_as {P : Program} {C : World → Prop} {a : Act} {K : Act → Prop} {dst : Option Tmp} {ty : TypeId} {x : Operand} {type : TypeId} {pos : String} {after : Array Edge} {guard : Option (Nat × Bool)}
    (g o : Nat) (hx : a.eval x = .pointer (some ⟨g, o, none⟩)) (cs : List Value) (d : TypeDesc) (hg : ∀ w, C w → w.rangeAt g o cs)
    (hu : P.underlying ty = some d) (hd : d.isRow = true) (hi : (P.info? ty).map (·.size) = some cs.length)
    (h : Oper.quiet P (Oper.mk dst (.move (.const (.agg cs.toArray))) type pos after guard) a C K) : Oper.quiet P (Oper.mk dst (.load ty x) type pos after guard) a C K := by
  obtain ⟨v, h1, h2⟩ := h
  refine ⟨v, fun w hw => ?_, h2⟩
  have e := h1 w hw
  unfold Oper.quietAt at e ⊢
  rw [BigFrame.run_move (.const (.agg cs.toArray)) rfl] at e
  have hv : Value.agg cs.toArray = v := e.2
  subst hv
  unfold execOp
  simp only [hx, run_loadAt_mid w g o ty cs d (hg w hw) hu hd hi, Sem.run_bind, Sem.run_pure, Result.andThen_ok]
  exact ⟨rfl, rfl⟩

/-- The cells of a recording: the box, the check, the data. -/
def recC (x c : List UInt8) (A : Option Addr) (n cap : Nat) : List Value := cellsB x ++ (cellsB c ++ [.slice A n cap])
theorem recC_length {x c : List UInt8} (A : Option Addr) (n cap : Nat) (hx : x.length = 16) (hc : c.length = 16) : (recC x c A n cap).length = 33 := by simp [recC, cellsB, hx, hc]
theorem rec_info {x c : List UInt8} (A : Option Addr) (n cap : Nat) (hx : x.length = 16) (hc : c.length = 16) : (Tryz.prog.info? 86).map (·.size) = some (recC x c A n cap).toArray.size := by
  rw [show (Tryz.prog.info? 86).map (·.size) = some 33 from by kernel_rfl]
  simp [recC, cellsB, hx, hc]
theorem key_info {x : List UInt8} (hx : x.length = 16) : (Tryz.prog.info? 24).map (·.size) = some (cellsB x).length := by
  rw [show (Tryz.prog.info? 24).map (·.size) = some 16 from by kernel_rfl, cellsB_length, hx]
theorem rec_box {w : World} {g : Nat} {t : TypeId} {x c : List UInt8} {A : Option Addr} {n cap : Nat} (h : Blk w g t (recC x c A n cap).toArray) : w.rangeAt g 0 (cellsB x) := fun j v hv => by
  rw [Nat.zero_add, h.cell j, List.getElem?_toArray, recC, List.getElem?_append_left ?_, hv]
  rcases Nat.lt_or_ge j (cellsB x).length with h' | h'
  · exact h'
  · rw [List.getElem?_eq_none h'] at hv; cases hv
theorem rec_check {w : World} {g : Nat} {t : TypeId} {x c : List UInt8} {A : Option Addr} {n cap : Nat} (h : Blk w g t (recC x c A n cap).toArray) (hx : x.length = 16) : w.rangeAt g 16 (cellsB c) := fun j v hv => by
  have hj : j < (cellsB c).length := by
    rcases Nat.lt_or_ge j (cellsB c).length with h' | h'
    · exact h'
    · rw [List.getElem?_eq_none h'] at hv; cases hv
  have hl : (cellsB x).length = 16 := by rw [cellsB_length, hx]
  rw [h.cell (16 + j), List.getElem?_toArray, recC, List.getElem?_append_right (by omega), hl, Nat.add_sub_cancel_left, List.getElem?_append_left hj, hv]
theorem rec_data {w : World} {g : Nat} {t : TypeId} {x c : List UInt8} {A : Option Addr} {n cap : Nat} (h : Blk w g t (recC x c A n cap).toArray) (hx : x.length = 16) (hc : c.length = 16) : w.cell? ⟨g, 32, none⟩ = some (.slice A n cap) := by
  have hl : (cellsB x).length = 16 := by rw [cellsB_length, hx]
  have hl2 : (cellsB c).length = 16 := by rw [cellsB_length, hc]
  rw [h.cell 32, List.getElem?_toArray, recC, List.getElem?_append_right (by omega), hl, List.getElem?_append_right (by omega), hl2]
  rfl
end Go.Proofs.YtinpiodfpnbllaaGreatDoor

/- Whole keys in regions that draw: ranges of cells. -/
namespace Go.Proofs.YtinpiodfpnbllaaGreatDoor
open Go.RowKit
set_option linter.unusedVariables false

theorem bel_on {w0 w w' : World} (h1 : Below w0.heap.size w0 w) (h2 : Below w.heap.size w w') : Below w0.heap.size w0 w' := h1.trans (h2.mono h1.size)
theorem Blk.range {w : World} {g : Nat} {t : TypeId} {cs : List Value} (h : Blk w g t cs.toArray) : w.rangeAt g 0 cs := fun j v hv => by rw [Nat.zero_add, h.cell j]; simpa using hv
theorem Blk.there {w : World} {g : Nat} {t : TypeId} {cs : Array Value} (h : Blk w g t cs) {o n : Nat} (hn : o + n ≤ cs.size) : w.there g o n := fun j hj => by
  refine ⟨?_, h.frozen _⟩
  rw [h.cell, Array.getElem?_eq_getElem (by omega)]; rfl
theorem range_below {w w' : World} {g o : Nat} {cs : List Value} (h : w.rangeAt g o cs) (hb : Below w.heap.size w w') : w'.rangeAt g o cs := fun j v hv => by
  have h1 := h j v hv
  rw [hb.cell (World.block_lt_of_cell? w _ h1)]
  exact h1
theorem setCells_row {w : World} {g : Nat} {t : TypeId} {old : Array Value} (h : Blk w g t old) (l : List Value) (hs : old.size = l.length) (h1 : ∀ v ∈ l, v.oneCell' = true) : w.setCells g 0 l = w.setRow g l.toArray := by
  have a := run_storeCells_from (P := Tryz.prog) g t l 0 old w h (by omega) h1
  have b := run_storeCells_cells (P := Tryz.prog) g 0 l 0 w (fun j hj => by simpa using (h.there (o := 0) (n := l.length) (by omega) j hj).1) (fun j hj => by simpa using (h.there (o := 0) (n := l.length) (by omega) j hj).2) h1
  simp only [List.take_zero, List.nil_append, Nat.add_zero] at a b
  rw [b] at a
  injection a with _ a
theorem range_setRow {w : World} {g o g' : Nat} {cs : List Value} (h : w.rangeAt g o cs) (hne : g ≠ g') (cs' : Array Value) : (w.setRow g' cs').rangeAt g o cs := fun j v hv => by
  rw [← h j v hv]
  exact World.cell?_of_block (setRow_other w g' g cs' hne)
theorem cells_one (l : List UInt8) : ∀ v ∈ cellsB l, v.oneCell' = true := cellsB_one l

section
variable {P : Program} {md : Region.Mode} {ops : Array Oper} {Q : Exit → Act → World → Prop} {S : World → Prop} {fuel : Nat} {listed : Array Bool} {a : Act} {w : World}
/-- A load of a row, or of a part of one, is taken first. -/
theorem hd_load (i : Nat) {oi : Oper} (g o : Nat) (cs : List Value) (ty : TypeId) (x : Operand) {d : TypeDesc} (hi : ops[i]? = some oi) (ho : oi.op = .load ty x) (hg : oi.guard = none)
    (hs : Region.noSelect ops = true) (hf : Region.free md ops listed i = true) (hr : (Region.ready md ops listed).contains i = true) (hQ : ∀ c a w, Q (.panic c) (a.put oi.dst (.agg cs.toArray)) w → Q (.panic c) a w)
    (hx : a.eval x = .pointer (some ⟨g, o, none⟩)) (hS : ∀ w, S w → w.rangeAt g o cs) (hu : P.underlying ty = some d) (hd : d.isRow = true) (hn : (P.info? ty).map (·.size) = some cs.length) (hw : S w)
    (h : wpAnyH P md ops Q S fuel (listed.setIfInBounds i true) (a.put oi.dst (.agg cs.toArray)) w) : wpAnyH P md ops Q S (fuel + 1) listed a w :=
  wpAnyH_take hi hs hf hr hQ (yieldsIf_load_mid (by simp [Region.wanted, hg]) ty x ho g o hx cs d hS hu hd hn) hw h
/-- What yields a value in every world in question is taken first. -/
theorem hd_take (i : Nat) {oi : Oper} (v : Value) (hi : ops[i]? = some oi) (hg : oi.guard = none)
    (hs : Region.noSelect ops = true) (hf : Region.free md ops listed i = true) (hr : (Region.ready md ops listed).contains i = true) (hQ : ∀ c a w, Q (.panic c) (a.put oi.dst v) w → Q (.panic c) a w)
    (hy : ∀ w, S w → (execOp a.eval oi).run P w = .ok (.value v) w) (hw : S w)
    (h : wpAnyH P md ops Q S fuel (listed.setIfInBounds i true) (a.put oi.dst v) w) : wpAnyH P md ops Q S (fuel + 1) listed a w :=
  wpAnyH_take hi hs hf hr hQ (.inl ⟨by simp [Region.wanted, hg], hy⟩) hw h
/-- The only one that may come up. -/
theorem hd_one (i : Nat) {oi : Oper} (hi : ops[i]? = some oi) (hg : oi.guard = none) (hr : Region.ready md ops listed = [i])
    (h : oi.wp P a w (fun a' w' => S w' ∧ wpAnyH P md ops Q S fuel (listed.setIfInBounds i true) a' w') Q) : wpAnyH P md ops Q S (fuel + 1) listed a w := by
  refine wpAnyH_all hr (by simp) fun j hj => ?_
  rw [List.mem_singleton] at hj
  subst hj
  unfold wpOp
  have hw : Region.wanted oi (yielded ops a.tmps) = true := by simp [Region.wanted, hg]
  simp only [hi, hw, if_true]
  exact .inl h
/-- A store of a whole row, the only one that may come up. -/
theorem hd_store (i : Nat) {oi : Oper} (g : Nat) (cells : Array Value) (ty : TypeId) (x y : Operand) (hi : ops[i]? = some oi) (ho : oi.op = .store ty x y) (hg : oi.guard = none) (hr : Region.ready md ops listed = [i])
    (hx : a.eval x = .pointer (some ⟨g, 0, none⟩)) (hy : a.eval y = .agg cells) {t : TypeId} {old : Array Value} (hb : Blk w g t old) (hn : (P.info? ty).map (·.size) = some cells.size) (hold : old.size = cells.size) (h1 : cells.all (·.oneCell') = true)
    (hS : S (w.setRow g cells)) (h : wpAnyH P md ops Q S fuel (listed.setIfInBounds i true) (a.put oi.dst undef) (w.setRow g cells)) : wpAnyH P md ops Q S (fuel + 1) listed a w :=
  hd_one i hi hg hr (wp_store_row ty x y ho g cells hx hy t old hb hn hold h1 ⟨hS, h⟩)
/-- A row is made, the only one that may come up. -/
theorem hd_calls (i : Nat) {oi : Oper} (f : FuncId) (args : Array Value) (hi : ops[i]? = some oi) (hg : oi.guard = none) (hr : Region.ready md ops listed = [i]) (hrun : (execOp a.eval oi).run P w = .ok (.enter f args) w)
    (h : Calls P f args w fun e w' => ∃ v, e = .returned v ∧ S w' ∧ wpAnyH P md ops Q S fuel (listed.setIfInBounds i true) (a.put oi.dst v) w') : wpAnyH P md ops Q S (fuel + 1) listed a w :=
  hd_one i hi hg hr (by
    unfold Oper.wp
    rw [hrun]
    refine h.mono fun e w' hv => ?_
    obtain ⟨v, rfl, hk⟩ := hv
    exact hk)
theorem hd_two (i j : Nat) (hr : Region.ready md ops listed = [i, j]) (h1 : wpOp P ops Q i (fun a' w' => S w' ∧ wpAnyH P md ops Q S fuel (listed.setIfInBounds i true) a' w') a w)
    (h2 : wpOp P ops Q j (fun a' w' => S w' ∧ wpAnyH P md ops Q S fuel (listed.setIfInBounds j true) a' w') a w) : wpAnyH P md ops Q S (fuel + 1) listed a w := by
  refine wpAnyH_all hr (by simp) fun k hk => ?_
  rcases List.mem_cons.1 hk with rfl | hk
  · exact h1
  · rw [List.mem_singleton] at hk; subst hk; exact h2
theorem hd_sole (i : Nat) (hr : Region.ready md ops listed = [i]) (h1 : wpOp P ops Q i (fun a' w' => S w' ∧ wpAnyH P md ops Q S fuel (listed.setIfInBounds i true) a' w') a w) : wpAnyH P md ops Q S (fuel + 1) listed a w := by
  refine wpAnyH_all hr (by simp) fun k hk => ?_
  rw [List.mem_singleton] at hk; subst hk; exact h1
theorem op_call {i : Nat} {oi : Oper} {K : Act → World → Prop} (f : FuncId) (args : Array Value) (hi : ops[i]? = some oi) (hg : oi.guard = none) (hrun : (execOp a.eval oi).run P w = .ok (.enter f args) w)
    (h : Calls P f args w fun e w' => ∃ v, e = .returned v ∧ K (a.put oi.dst v) w') : wpOp P ops Q i K a w := by
  have hw : Region.wanted oi (yielded ops a.tmps) = true := by simp [Region.wanted, hg]
  unfold wpOp
  simp only [hi, hw, if_true]
  refine .inl ?_
  unfold Oper.wp
  rw [hrun]
  refine h.mono fun e w' hv => ?_
  obtain ⟨v, rfl, hk⟩ := hv
  exact hk
theorem op_run {i : Nat} {oi : Oper} {K : Act → World → Prop} (v : Value) (w' : World) (hi : ops[i]? = some oi) (hg : oi.guard = none) (hrun : (execOp a.eval oi).run P w = .ok (.value v) w')
    (h : K (a.put oi.dst v) w') : wpOp P ops Q i K a w := by
  have hw : Region.wanted oi (yielded ops a.tmps) = true := by simp [Region.wanted, hg]
  unfold wpOp
  simp only [hi, hw, if_true]
  refine .inl ?_
  unfold Oper.wp
  rw [hrun]
  exact h
end
end Go.Proofs.YtinpiodfpnbllaaGreatDoor
