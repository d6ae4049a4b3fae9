/-
  Bytes and rows of bytes of the call's own: append; a row as a string.
-/
import Derived.Test.YtinpiodfpnbllaaMemR
import Derived.Laws.IdiomStrings
namespace Go.Proofs.Ytinpiodfpnbllaa
open Go.RowKit
set_option linter.unusedVariables false

theorem u8_info' : (Try.prog.info? 5).map (fun i => (i.zero, i.size, i.bytes)) = some (some (.int .u8 0), 1, 1) := by kernel_rfl
theorem OB.below {B : Nat} {w w' : World} {A : Option Addr} {c : Nat} {l : List UInt8} (h : OB B w A c l) (hb : Below w.heap.size w w') : OB B w' A c l := ownsRow_below h hb
theorem OB.br {B : Nat} {w : World} {A : Option Addr} {c : Nat} {l : List UInt8} (h : OB B w A c l) (hl : l.length ≤ 140737488351232) : BR w A c l := Rd.of_own h hl
theorem OB.le_ {B B' : Nat} {w : World} {A : Option Addr} {c : Nat} {l : List UInt8} (h : OB B w A c l) (hB : B' ≤ B) : OB B' w A c l :=
  ⟨h.1, h.2.elim Or.inl (fun ⟨g, cap, cur, hv, hg, r⟩ => Or.inr ⟨g, cap, cur, hv, Nat.le_trans hB hg, r⟩)⟩
theorem OB.nil' (B : Nat) (w : World) : OB B w none 0 [] := World.ownsRow_nil w B _ 1
/-- An empty literal. -/
theorem OB.lit0 (B : Nat) (w : World) (hB : B ≤ w.heap.size) : OB B (w.alloc (.cells #[] 5)) (some ⟨w.heap.size, 0, none⟩) 0 [] := World.ownsRow_lit w #[] 0 hB (by simp [maxLen]) (by simp)
/-- A literal. -/
theorem OB.lit (B : Nat) (w : World) (l : List UInt8) (hB : B ≤ w.heap.size) (hl : l.length ≤ 1000000) {n : Nat} (hn : l.length = n) : OB B (w.alloc (.cells (cellsB l).toArray 5)) (some ⟨w.heap.size, 0, none⟩) n l := by
  subst hn
  exact World.ownsRow_lit (e := 5) (size := 1) w (cellsB l).toArray l.length hB (by simp only [maxLen]; omega) (by simp [cellsB])
theorem BR.src {w : World} {A : Option Addr} {c : Nat} {l : List UInt8} (h : BR w A c l) {n : Nat} (hn : l.length = n) : Src w 1 A n (cellsB l) := by subst hn; exact Rd.src h
theorem src_lit {w : World} (l : List UInt8) {n : Nat} (hn : l.length = n) : Src (w.alloc (.cells (cellsB l).toArray 5)) 1 (some ⟨w.heap.size, 0, none⟩) n (cellsB l) := by
  subst hn
  refine ⟨by simp [cellsB], .inr ⟨_, rfl, fun j u hu => ?_⟩⟩
  rw [Addr.add_lit, Nat.zero_add]
  simpa using hu

theorem wpList_append_bytes (w : World) {ops : Array Oper} {rest : List Oper} {o : Oper} {a : Act} {Q : Exit → Act → World → Prop} (hgd : o.guard = none) (s x : Operand)
    (ho : o.op = .call { callee := .builtin .append, args := #[s, x], argTypes := #[24, 24] })
    (B : Nat) (A : Option Addr) (n c : Nat) (l : List UInt8) (hn : l.length = n) (hs : a.eval s = .slice A n c) (hown : OB B w A c l)
    (X : Option Addr) (m d : Nat) (news : List UInt8) (hm : news.length = m) (hx : a.eval x = .slice X m d) (hsrc : Src w 1 X m (cellsB news))
    (hlen : n + m ≤ 140737488351232) (hB : B ≤ w.heap.size)
    (h : ∀ A' c' w', OB B w' A' c' (l ++ news) → Below B w w' → w.grownBy w' (Value.ownBlock (.slice A n c)) → wpList Try.prog ops Q rest (a.put o.dst (.slice A' (n + m) c')) w') : wpList Try.prog ops Q (o :: rest) a w := by
  obtain ⟨i0, hi, hz0, hz1, hz2⟩ := info_parts u8_info'
  subst hn hm
  refine wpList_append_src w hgd s x 24 ho B 5 i0 (.int .u8 0) 1 1 Try.underlying24 hi hz0 hz1 hz2 rfl (by omega) A l.length c (cellsB l) hs hown X news.length d (cellsB news) hx hsrc (cellsB_one _)
    (by simp only [maxLen]; omega) (by omega) hB ?_
  intro A' c' w' h1 h2 h3
  refine h A' c' w' ?_ (grown_below (Below.refl _ _) hown h2 hB (Nat.le_refl _)) h2
  unfold OB
  rw [cellsB_append, List.length_append]
  exact h1

/-- Some bytes as a string. -/
def strB (l : List UInt8) : ByteArray := ⟨l.toArray⟩
theorem strB_inj {a b : List UInt8} (h : strB a = strB b) : a = b := by
  have := congrArg (fun x : ByteArray => x.data.toList) h
  simpa [strB] using this
theorem run_string_br {w : World} {A : Option Addr} {c : Nat} {l : List UInt8} (h : BR w A c l) (n : Nat) (hn : l.length = n) : (convert 24 9 (.slice A n c)).run Try.prog w = .ok (.string (strB l)) w := by
  subst hn
  cases A with
  | none =>
    have hl : l = [] := by
      apply Classical.byContradiction
      intro hne
      obtain ⟨b, off, e, _⟩ := h.2 (by have := List.length_pos_iff.2 hne; omega)
      cases e
    subst hl
    rw [run_convert_bytes_string w 24 9 5 none _ c Try.underlying24 Try.underlying5 Try.underlying9]
    rfl
  | some p =>
    refine run_convert_bytes_back w 24 9 5 p c l Try.underlying24 Try.underlying5 Try.underlying9 (fun j hj => ?_)
    obtain ⟨b, off, e, hb, hc⟩ := h.at_ hj
    injection e with e
    subst e
    rw [Addr.add_lit, hc, bt_in hj]

/-- The rows that the call owns. -/
def RO (B : Nat) (w : World) (A : Option Addr) (c : Nat) (rs : List BRow) : Prop := w.ownsRow B 24 1 (.slice A rs.length c) rs.length (rs.map BRow.v)
theorem rows_info : (Try.prog.info? 24).map (fun i => (i.zero, i.size, i.bytes)) = some (some (.slice none 0 0), 1, 24) := by kernel_rfl
theorem RO.below {B : Nat} {w w' : World} {A : Option Addr} {c : Nat} {rs : List BRow} (h : RO B w A c rs) (hb : Below w.heap.size w w') : RO B w' A c rs := ownsRow_below h hb
theorem RO.nil (B : Nat) (w : World) : RO B w none 0 [] := World.ownsRow_nil w B _ 1
theorem wpList_append_row (w : World) {ops : Array Oper} {rest : List Oper} {o : Oper} {a : Act} {Q : Exit → Act → World → Prop} (hgd : o.guard = none) (s x : Operand)
    (ho : o.op = .call { callee := .builtin .append, args := #[s, x], argTypes := #[45, 45] })
    (B : Nat) (A : Option Addr) (n c : Nat) (rs : List BRow) (hn : rs.length = n) (hs : a.eval s = .slice A n c) (hown : RO B w A c rs)
    (r : BRow) (X : Option Addr) (d : Nat) (hx : a.eval x = .slice X 1 d) (hsrc : Src w 1 X 1 [r.v])
    (hlen : (n + 1) * 24 ≤ 140737488355328) (hB : B ≤ w.heap.size)
    (h : ∀ A' c' w', RO B w' A' c' (rs ++ [r]) → Below B w w' → w.grownBy w' (Value.ownBlock (.slice A n c)) → wpList Try.prog ops Q rest (a.put o.dst (.slice A' (n + 1) c')) w') : wpList Try.prog ops Q (o :: rest) a w := by
  obtain ⟨i0, hi, hz0, hz1, hz2⟩ := info_parts rows_info
  subst hn
  refine wpList_append_src w hgd s x 45 ho B 24 i0 (.slice none 0 0) 1 24 Try.underlying45 hi hz0 hz1 hz2 rfl (by omega) A rs.length c (rs.map BRow.v) hs hown X 1 d [r.v] hx hsrc (by intro u hu; rw [List.mem_singleton.1 hu]; rfl)
    (by simp only [maxLen]; omega) hlen hB ?_
  intro A' c' w' h1 h2 h3
  refine h A' c' w' ?_ (grown_below (Below.refl _ _) hown h2 hB (Nat.le_refl _)) h2
  unfold RO
  rw [List.map_append, List.length_append]
  exact h1
theorem RO.rr {B : Nat} {w : World} {A : Option Addr} {c : Nat} {rs : List BRow} (h : RO B w A c rs) (hl : rs.length ≤ 140737488351232) (hb : ∀ r ∈ rs, BR w r.A r.c r.l) : RR w A c rs := ⟨Rd.of_own h hl, hb⟩
end Go.Proofs.Ytinpiodfpnbllaa
