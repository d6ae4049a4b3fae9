/-
  Slices in memory, whatever their elements: what is read of them, and what the call itself owns of them.
-/
import Derived.Test.YtinpiodfpnbllaaOwn
import Derived.Deep.OwnRows
namespace Go.Proofs.Ytinpiodfpnbllaa
open Go.RowKit
set_option linter.unusedVariables false

/-- The slice '.slice A n c' has n elements of s cells each, and these are the cells. -/
def Rd (w : World) (s : Nat) (A : Option Addr) (c n : Nat) (xs : List Value) : Prop :=
  (xs.length = n * s ∧ n ≤ c ∧ c ≤ 9223372036854775807 ∧ n ≤ 140737488351232) ∧
    (n ≠ 0 → ∃ b off, A = some ⟨b, off, none⟩ ∧ b < w.heap.size ∧ ∀ j v, xs[j]? = some v → w.cell? ⟨b, off + j, none⟩ = some v)

section
variable {w w' : World} {s c n : Nat} {A : Option Addr} {xs : List Value}
theorem Rd.nil (w : World) (s : Nat) : Rd w s none 0 0 [] := ⟨⟨by simp, Nat.le_refl _, by omega, by omega⟩, fun h => absurd rfl h⟩
theorem Rd.size (h : Rd w s A c n xs) : xs.length = n * s := h.1.1
theorem Rd.le (h : Rd w s A c n xs) : n ≤ c := h.1.2.1
theorem Rd.cap (h : Rd w s A c n xs) : c ≤ 9223372036854775807 := h.1.2.2.1
theorem Rd.len (h : Rd w s A c n xs) : n ≤ 140737488351232 := h.1.2.2.2
theorem Rd.keep (h : Rd w s A c n xs) (hs : w.heap.size ≤ w'.heap.size) (hk : ∀ p : Addr, p.block < w.heap.size → w'.cell? p = w.cell? p) : Rd w' s A c n xs :=
  ⟨h.1, fun hn => by
    obtain ⟨b, off, e, hb, hc⟩ := h.2 hn
    exact ⟨b, off, e, by omega, fun j v hv => (hk _ hb).trans (hc j v hv)⟩⟩
theorem Rd.below (h : Rd w s A c n xs) (hb : Below w.heap.size w w') : Rd w' s A c n xs := h.keep hb.size fun p hp => hb.cell hp
theorem Rd.alloc (h : Rd w s A c n xs) (o : Obj) : Rd (w.alloc o) s A c n xs := h.below ((Below.refl _ _).alloc (Nat.le_refl _) o)
theorem Rd.drew (h : Rd w s A c n xs) : Rd w.drew s A c n xs := h.below (Below.refl _ _).drew
theorem Rd.drewN (h : Rd w s A c n xs) (k : Nat) : Rd (w.drewN k) s A c n xs := h.below ((Below.refl _ _).trans ⟨rfl, rfl, rfl, Nat.le_refl _, fun _ _ => rfl⟩)
/-- One cell of one-cell elements. -/
theorem Rd.at1 (h : Rd w 1 A c n xs) {i : Nat} (hi : i < n) : ∃ b off, A = some ⟨b, off, none⟩ ∧ b < w.heap.size ∧ ∃ v, xs[i]? = some v ∧ w.cell? ⟨b, off + i, none⟩ = some v := by
  obtain ⟨b, off, e, hb, hc⟩ := h.2 (by omega)
  have hl := h.size
  exact ⟨b, off, e, hb, xs[i]'(by omega), List.getElem?_eq_getElem _, hc i _ (List.getElem?_eq_getElem _)⟩
theorem Rd.src (h : Rd w s A c n xs) : Src w s A n xs := by
  refine ⟨h.size, ?_⟩
  by_cases hn : n = 0
  · exact .inl hn
  · obtain ⟨b, off, e, hb, hc⟩ := h.2 hn
    refine .inr ⟨_, e, fun j u hu => ?_⟩
    rw [Addr.add_lit]
    exact hc j u hu
/-- What the call owns it can read. -/
theorem Rd.of_own {B : Nat} {t : TypeId} (h : w.ownsRow B t s (.slice A n c) n xs) (hn : n ≤ 140737488351232) : Rd w s A c n xs := by
  have hl := h.1
  rcases h.2 with ⟨hv, h0⟩ | ⟨g, cap, cur, hv, hB, hh, hnc, hm, hs, ht⟩
  · injection hv with h1 h2 h3
    subst h1 h3 h0
    have : xs = [] := List.eq_nil_of_length_eq_zero (by simpa using hl)
    subst this
    exact Rd.nil w s
  · injection hv with h1 h2 h3
    subst h1 h3
    have hlt : g < w.heap.size := by
      rcases Nat.lt_or_ge g w.heap.size with hlt | hge
      · exact hlt
      · rw [Array.getElem?_eq_none hge] at hh; cases hh
    refine ⟨⟨hl, hnc, by simpa [maxLen] using hm, hn⟩, fun _ => ⟨g, 0, rfl, hlt, fun j v hv => ?_⟩⟩
    have hj : j < xs.length := by
      rcases Nat.lt_or_ge j xs.length with h' | h'
      · exact h'
      · rw [List.getElem?_eq_none h'] at hv; cases hv
    have := h.cellAt j (by omega)
    rw [Nat.zero_add, this, hv]
end

theorem own_ne {w : World} {B B' : Nat} {t t' : TypeId} {s s' n n' : Nat} {v v' : Value} {xs xs' : List Value} (h : w.ownsRow B t s v n xs) (h' : w.ownsRow B' t' s' v' n' xs') (hne : t ≠ t') : v.ownBlock = none ∨ v.ownBlock ≠ v'.ownBlock := by
  rcases h.2 with ⟨rfl, _⟩ | ⟨g, cap, cur, rfl, _, hh, _⟩
  · exact .inl rfl
  · rcases h'.2 with ⟨rfl, _⟩ | ⟨g', cap', cur', rfl, _, hh', _⟩
    · exact .inr (by simp [Value.ownBlock])
    · refine .inr fun e => hne ?_
      have : g = g' := by simpa [Value.ownBlock] using e
      subst this
      rw [hh] at hh'
      injection hh' with hh'
      injection hh' with _ ht
/-- A row of another element type stays as it is when a row grows. -/
theorem own_kept {w w' : World} {B B' : Nat} {t t' : TypeId} {s s' n n' : Nat} {v v' : Value} {xs xs' : List Value} (h : w.ownsRow B t s v n xs) (h' : w.ownsRow B' t' s' v' n' xs') (hne : t ≠ t') (hg : w.grownBy w' v'.ownBlock) : w'.ownsRow B t s v n xs :=
  h.kept hg (own_ne h h' hne)

/-- What is read below a base stays when a row from the base on grows. -/
theorem Rd.grown {w w' : World} {B B' : Nat} {t : TypeId} {s s' c n n' : Nat} {A : Option Addr} {v : Value} {xs ys : List Value} (h : Rd w s A c n xs) (hb : n ≠ 0 → ∀ a, A = some a → a.block < B) (hown : w.ownsRow B t s' v n' ys) (hg : w.grownBy w' v.ownBlock) : Rd w' s A c n xs :=
  ⟨h.1, fun hn => by
    obtain ⟨b, off, e, hlt, hc⟩ := h.2 hn
    have hB := hb hn _ e
    refine ⟨b, off, e, Nat.lt_of_lt_of_le hlt hg.size, fun j u hu => ?_⟩
    refine (World.cell?_of_block (hg.block b hlt ?_)).trans (hc j u hu)
    intro e3
    have := (hown.lt b (by first | exact e3 | exact e3.symm)).1
    simp only at hB
    omega⟩

/-- Bytes. -/
def cellsB (l : List UInt8) : List Value := l.map fun x => .int .u8 (x.toNat : Int)
theorem cellsB_length (l : List UInt8) : (cellsB l).length = l.length := by simp [cellsB]
theorem cellsB_get (l : List UInt8) (i : Nat) (h : i < l.length) : (cellsB l)[i]? = some (.int .u8 (l[i].toNat : Int)) := by simp [cellsB, List.getElem?_eq_getElem h]
theorem cellsB_append (a b : List UInt8) : cellsB (a ++ b) = cellsB a ++ cellsB b := by simp [cellsB]
theorem cellsB_set (l : List UInt8) (i : Nat) (x : UInt8) : cellsB (l.set i x) = (cellsB l).set i (.int .u8 (x.toNat : Int)) := by simp [cellsB, List.map_set]
theorem cellsB_one (l : List UInt8) : ∀ u ∈ cellsB l, u.oneCell' = true := by
  intro u hu
  obtain ⟨x, _, rfl⟩ := List.mem_map.1 hu
  rfl
/-- The byte with an index. -/
def bt (l : List UInt8) (i : Nat) : Nat := (l.getD i 0).toNat
theorem bt_in {l : List UInt8} {i : Nat} (h : i < l.length) : bt l i = l[i].toNat := by unfold bt; simp [List.getD, List.getElem?_eq_getElem h]
theorem bt_lt (l : List UInt8) (i : Nat) : bt l i < 256 := UInt8.toNat_lt _
theorem bt_le (l : List UInt8) (i : Nat) : (bt l i : Int) ≤ 255 := by have := bt_lt l i; omega
theorem bt_u (l : List UInt8) (i : Nat) : (Value.int .u8 ((l.getD i 0).toNat : Int)) = .int .u8 (bt l i : Int) := rfl
/-- A slice that reads as bytes. -/
def BR (w : World) (A : Option Addr) (c : Nat) (l : List UInt8) : Prop := Rd w 1 A c l.length (cellsB l)
section
variable {w w' : World} {c : Nat} {A : Option Addr} {l : List UInt8}
theorem BR.nil (w : World) : BR w none 0 [] := Rd.nil w 1
theorem BR.below (h : BR w A c l) (hb : Below w.heap.size w w') : BR w' A c l := Rd.below h hb
theorem BR.len (h : BR w A c l) : l.length ≤ 140737488351232 := Rd.len h
theorem BR.at_ (h : BR w A c l) {i : Nat} (hi : i < l.length) : ∃ b off, A = some ⟨b, off, none⟩ ∧ b < w.heap.size ∧ w.cell? ⟨b, off + i, none⟩ = some (.int .u8 (bt l i : Int)) := by
  obtain ⟨b, off, e, hb, v, hv, hc⟩ := Rd.at1 h hi
  refine ⟨b, off, e, hb, ?_⟩
  rw [hc, bt_in hi, ← cellsB_get l i hi, hv]
end
/-- The row of bytes that the call owns. -/
def OB (B : Nat) (w : World) (A : Option Addr) (c : Nat) (l : List UInt8) : Prop := w.ownsRow B 5 1 (.slice A l.length c) l.length (cellsB l)
/-- Rows of bytes. -/
structure BRow where
  A : Option Addr
  c : Nat
  l : List UInt8
def BRow.v (r : BRow) : Value := .slice r.A r.l.length r.c
def RR (w : World) (A : Option Addr) (c : Nat) (rs : List BRow) : Prop := Rd w 1 A c rs.length (rs.map BRow.v) ∧ ∀ r ∈ rs, BR w r.A r.c r.l
instance : Inhabited BRow := ⟨⟨none, 0, []⟩⟩
theorem below_drewN {B : Nat} {a w : World} (h : Below B a w) (n : Nat) : Below B a (w.drewN n) := ⟨h.os, h.tape, h.output, h.size, h.block⟩
theorem alloc_bel (w : World) (o : Obj) : Below w.heap.size w (w.alloc o) := (Below.refl _ _).alloc (Nat.le_refl _) o
theorem quiet_left' {P : Program} {f : FuncId} {args : Array Value} {w : World} {n : Nat} {v : Value}
    (h : Calls P f args (w.drewN n) fun e w' => e = .returned v ∧ w.drewN n = w') : Calls P f args (w.drewN n) fun e w'' => e = .returned v ∧ ∃ m, w'' = w.drewN m :=
  h.mono fun _ _ ⟨he, hm⟩ => ⟨he, n, hm.symm⟩
theorem BR.drewN {w : World} {A : Option Addr} {c : Nat} {l : List UInt8} (h : BR w A c l) (n : Nat) : BR (w.drewN n) A c l := Rd.drewN h n
end Go.Proofs.Ytinpiodfpnbllaa
