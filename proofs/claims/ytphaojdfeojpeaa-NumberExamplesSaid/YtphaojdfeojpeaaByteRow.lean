/-
  Rows of bytes of the call's own: what is read of them, written into them, appended, reversed, made a string.
-/
import Derived.Test.YtphaojdfeojpeaaNatWalks2
import Derived.Laws.IdiomStrings
import Derived.Laws.OwnMore
namespace Go.Proofs.Ytphaojdfeojpeaa
open Go.RowKit
set_option linter.unusedVariables false

/-- The string of some bytes. -/
def strB (l : List UInt8) : ByteArray := ⟨l.toArray⟩
theorem strB_nil : strB [] = { data := #[] } := rfl
theorem strB_size (l : List UInt8) : (strB l).size = l.length := by simp [strB, ByteArray.size]
def cellsB (l : List UInt8) : List Value := l.map fun x => .int .u8 (x.toNat : Int)
theorem cellsB_length (l : List UInt8) : (cellsB l).length = l.length := by simp [cellsB]
theorem cellsB_get (l : List UInt8) (i : Nat) (h : i < l.length) : (cellsB l)[i]? = some (.int .u8 (l[i].toNat : Int)) := by simp [cellsB, List.getElem?_eq_getElem h]
theorem cellsB_append (a b : List UInt8) : cellsB (a ++ b) = cellsB a ++ cellsB b := by simp [cellsB]
theorem cellsB_set (l : List UInt8) (i : Nat) (x : UInt8) : cellsB (l.set i x) = (cellsB l).set i (.int .u8 (x.toNat : Int)) := by simp [cellsB, List.map_set]
theorem cellsB_one (l : List UInt8) : ∀ u ∈ cellsB l, u.oneCell' = true := by
  intro u hu
  obtain ⟨x, _, rfl⟩ := List.mem_map.1 hu
  rfl
/-- The row that the call owns, as bytes. -/
def OB (B : Nat) (w : World) (A : Option Addr) (c : Nat) (l : List UInt8) : Prop := w.ownsRow B 5 1 (.slice A l.length c) l.length (cellsB l)
theorem OB.nil (B : Nat) (w : World) : OB B w none 0 [] := World.ownsRow_nil w B _ 1
theorem OB.below {B : Nat} {w w' : World} {A : Option Addr} {c : Nat} {l : List UInt8} (h : OB B w A c l) (hb : Below w.heap.size w w') : OB B w' A c l := ownsRow_below h hb
theorem OB.drew {B : Nat} {w : World} {A : Option Addr} {c : Nat} {l : List UInt8} (h : OB B w A c l) : OB B w.drew A c l := h
theorem OB.head {B : Nat} {w : World} {A : Option Addr} {c : Nat} {l : List UInt8} (h : OB B w A c l) (hl : l ≠ []) : ∃ g, A = some ⟨g, 0, none⟩ ∧ B ≤ g ∧ g < w.heap.size := by
  have hr := h
  rcases h.2 with ⟨hv, h0⟩ | ⟨g, cap, cur, hv, hB, hh, _⟩
  · exact absurd (List.eq_nil_of_length_eq_zero h0) hl
  · injection hv with h1 h2 h3
    refine ⟨g, h1, hB, ?_⟩
    rcases Nat.lt_or_ge g w.heap.size with hlt | hge
    · exact hlt
    · rw [Array.getElem?_eq_none hge] at hh; cases hh
theorem OB.le {B : Nat} {w : World} {A : Option Addr} {c : Nat} {l : List UInt8} (h : OB B w A c l) : l.length ≤ c := by
  rcases h.2 with ⟨hv, h0⟩ | ⟨g, cap, cur, hv, hB, hh, hn, _⟩
  · omega
  · injection hv with h1 h2 h3; omega
theorem OB.cell {B : Nat} {w : World} {g c : Nat} {l : List UInt8} (h : OB B w (some ⟨g, 0, none⟩) c l) {i : Nat} (hi : i < l.length) : w.cell? ⟨g, i, none⟩ = some (.int .u8 (l[i].toNat : Int)) := by
  have := World.ownsRow.cellAt h i (by omega)
  rw [this, cellsB_get l i hi]
theorem OB.frozen {B : Nat} {w : World} {g c : Nat} {l : List UInt8} (h : OB B w (some ⟨g, 0, none⟩) c l) (i : Nat) : w.frozen? ⟨g, i, none⟩ = false := World.ownsRow.frozenAt h i
theorem OB.set {B : Nat} {w : World} {g c : Nat} {l : List UInt8} (h : OB B w (some ⟨g, 0, none⟩) c l) (i : Nat) (x : UInt8) : OB B (w.setCell ⟨g, i, none⟩ (.int .u8 (x.toNat : Int))) (some ⟨g, 0, none⟩) c (l.set i x) := by
  have := World.ownsRow.stored h i (.int .u8 (x.toNat : Int))
  unfold OB
  rw [cellsB_set, List.length_set]
  exact this.1

/-- A number in memory that was made behind the row stays as it is when the row grows. -/
theorem NF.grownOB {B B2 : Nat} {w0 w w' : World} {O Q : Option Addr} {co cq n : Nat} {o : List UInt8} {l : List Nat} (hq : NF B2 w Q cq l) (ho : OB B w0 O co o) (h0 : w0.heap.size ≤ B2) (hn : o.length = n) (hg : w.grownBy w' (Value.ownBlock (.slice O n co))) : NR w' Q cq l := by
  subst hn
  refine ⟨hq.1.1, hq.1.2.1, hq.1.2.2.1, fun hl => ?_⟩
  obtain ⟨b, off, e, hb, hc⟩ := hq.1.2.2.2 hl
  obtain ⟨b2, off2, e2, hB, _⟩ := hq.2 hl
  have hbb : b = b2 := by rw [e] at e2; injection e2 with e2; injection e2
  refine ⟨b, off, e, Nat.lt_of_lt_of_le hb hg.size, fun i hi => ?_⟩
  refine (World.cell?_of_block (hg.block b hb ?_)).trans (hc i hi)
  intro e3
  have := World.ownsRow.lt ho b (by first | exact e3 | exact e3.symm)
  omega
theorem u8_info : (Try.prog.info? 5).map (fun i => (i.zero, i.size, i.bytes)) = some (some (.int .u8 0), 1, 1) := by kernel_rfl
/-- append of one byte. -/
theorem wpList_append_byte (w : World) {ops : Array Oper} {rest : List Oper} {o : Oper} {a : Act} {Q : Exit → Act → World → Prop} (hgd : o.guard = none) (s x : Operand)
    (ho : o.op = .call { callee := .builtin .append, args := #[s, x], argTypes := #[99, 99] })
    (B : Nat) (A : Option Addr) (n c : Nat) (l : List UInt8) (hn : l.length = n) (hs : a.eval s = .slice A n c) (hown : OB B w A c l)
    (y : UInt8) (X : Option Addr) (d : Nat) (hx : a.eval x = .slice X 1 d) (hsrc : Src w 1 X 1 [.int .u8 (y.toNat : Int)])
    (hlen : n ≤ 1000000) (hB : B ≤ w.heap.size)
    (h : ∀ A' c' w', OB B w' A' c' (l ++ [y]) → Below B w w' → w.grownBy w' (Value.ownBlock (.slice A n c)) → wpList Try.prog ops Q rest (a.put o.dst (.slice A' (n + 1) c')) w') : wpList Try.prog ops Q (o :: rest) a w := by
  obtain ⟨i0, hi, hz0, hz1, hz2⟩ := info_parts u8_info
  subst hn
  refine wpList_append_src w hgd s x 99 ho B 5 i0 (.int .u8 0) 1 1 Try.underlying99 hi hz0 hz1 hz2 rfl (by omega) A l.length c (cellsB l) hs hown X 1 d [.int .u8 (y.toNat : Int)] hx hsrc (by simp [Value.oneCell'])
    (by simp only [maxLen]; omega) (by omega) hB ?_
  intro A' c' w' h1 h2 h3
  refine h A' c' w' ?_ (grown_below (Below.refl _ _) hown h2 hB (Nat.le_refl _)) h2
  unfold OB
  rw [cellsB_append, List.length_append]
  exact h1
/-- A row of the call's own as a string. -/
theorem run_string_row {B : Nat} {w : World} {A : Option Addr} {c : Nat} {l : List UInt8} (h : OB B w A c l) (hl : l ≠ []) (n : Nat) (hn : l.length = n) :
    (convert 99 9 (.slice A n c)).run Try.prog w = .ok (.string (strB l)) w := by
  obtain ⟨g, rfl, _, _⟩ := h.head hl
  subst hn
  exact run_convert_bytes_back w 99 9 5 ⟨g, 0, none⟩ c l Try.underlying99 Try.underlying5 Try.underlying9 (fun j hj => by
    rw [Addr.add_lit, Nat.zero_add]
    exact h.cell hj)

/-- The middle of a reversal: the first k and the last k are exchanged. -/
def RevI (l r : List UInt8) (k : Nat) : Prop := r.length = l.length ∧ ∀ i (h : i < l.length), r.getD i 0 = if i < k ∨ l.length - k ≤ i then l.getD (l.length - 1 - i) 0 else l.getD i 0
theorem RevI.start (l : List UInt8) : RevI l l 0 := ⟨rfl, fun i h => by rw [if_neg (by omega)]⟩
theorem getD_set (l : List UInt8) (i j : Nat) (x : UInt8) (hi : i < l.length) : (l.set i x).getD j 0 = if i = j then x else l.getD j 0 := by
  simp only [List.getD, List.getElem?_set]
  by_cases h : i = j
  · subst h; simp [hi]
  · simp [h]
theorem RevI.step {l r : List UInt8} {k : Nat} (h : RevI l r k) (hk : 2 * k + 1 < l.length) : RevI l ((r.set k (r.getD (l.length - 1 - k) 0)).set (l.length - 1 - k) (r.getD k 0)) (k + 1) := by
  obtain ⟨h1, h2⟩ := h
  refine ⟨by simpa using h1, fun i hi => ?_⟩
  rw [getD_set _ _ _ _ (by rw [List.length_set]; omega), getD_set _ _ _ _ (by omega)]
  by_cases e1 : l.length - 1 - k = i
  · subst e1
    rw [if_pos rfl, if_pos (by omega), h2 k (by omega), if_neg (by omega)]
    congr 1
    omega
  · rw [if_neg e1]
    by_cases e2 : k = i
    · subst e2
      rw [if_pos rfl, if_pos (by omega), h2 _ (by omega), if_neg (by omega)]
    · rw [if_neg e2, h2 i hi]
      by_cases e3 : i < k ∨ l.length - k ≤ i
      · rw [if_pos e3, if_pos (by omega)]
      · rw [if_neg e3, if_neg (by omega)]
theorem RevI.fin {l r : List UInt8} {k : Nat} (h : RevI l r k) (hk : l.length ≤ 2 * k + 1) : r = l.reverse := by
  obtain ⟨h1, h2⟩ := h
  refine List.ext_getElem (by simpa using h1) fun i hi hi2 => ?_
  have h3 := h2 i (by omega)
  have e1 : r.getD i 0 = r[i] := by simp [List.getD, List.getElem?_eq_getElem hi]
  have e2 : l.getD (l.length - 1 - i) 0 = l[l.length - 1 - i]'(by omega) := by simp [List.getD, List.getElem?_eq_getElem (show l.length - 1 - i < l.length by omega)]
  rw [List.getElem_reverse, ← e1, h3, ← e2]
  by_cases e3 : i < k ∨ l.length - k ≤ i
  · rw [if_pos e3]
  · rw [if_neg e3]
    congr 1
    omega

set_option maxHeartbeats 1000000 in
theorem Reverse_any (B : Nat) (A : Option Addr) (c : Nat) (l : List UInt8) (w : World) {n : Nat} (hn : l.length = n) (h : OB B w A c l) (hl : n ≤ 1000000) :
    Calls Try.prog 77 #[.slice A n c] w fun e w' => (∃ v, e = .returned v) ∧ OB B w' A c l.reverse ∧ Below B w w' := by
  have HN := Lib.hid hn
  have HO := Lib.hid h
  by_cases h0 : n = 0
  · have hr : l = [] := List.eq_nil_of_length_eq_zero (by omega)
    have HR : Hid (OB B w A c l.reverse) := by rw [hr] at h ⊢; exact h
    subst h0
    clear hn h hr
    go_enter Try.func77, Try.ntmps77
    go_wp2_with fail
    go_loopw [2, 3] (fun vi vj wr => vi = .int .i64 0 ∧ vj = .int .i64 (-1) ∧ wr = w) (fun _ _ _ => 0)
    case atStart => exact ⟨rfl, rfl, rfl⟩
    case round =>
      obtain ⟨rfl, rfl, rfl⟩ := hrel
      go_wp2_with fail
      go_end0
      exact ⟨⟨_, rfl⟩, HR.out, Below.refl _ _⟩
  · obtain ⟨g, rfl, hB, hg⟩ := h.head (fun e => h0 (by rw [← hn, e]; rfl))
    have hc1 := h.le
    clear hn h
    go_enter Try.func77, Try.ntmps77
    go_wp2_with fail
    go_loopw [2, 3] (fun vi vj wr => ∃ (k : Nat) (r : List UInt8), 2 * k ≤ n ∧ vi = .int .i64 k ∧ vj = .int .i64 ((n : Int) - 1 - k) ∧ Hid (RevI l r k) ∧ Hid (OB B wr (some ⟨g, 0, none⟩) c r) ∧ Below B w wr) (fun vi _ _ => n - (intOf vi).toNat)
    case atStart => exact ⟨0, l, by omega, rfl, int_cong (by omega), RevI.start l, HO.out, Below.refl _ _⟩
    case round =>
      obtain ⟨k, r, hk, rfl, rfl, HR, HB, hbel⟩ := hrel
      have hrl := HR.out.1
      by_cases hkn : 2 * k + 1 < n
      · obtain ⟨j, hj⟩ : ∃ j, n - 1 - k = j := ⟨_, rfl⟩
        have ej : (n : Int) - 1 - k = j := by omega
        have hjn : j < n := by omega
        have hkj : k < j := by omega
        have hki : (k : Int) < j := by omega
        have hki0 : (0 : Int) ≤ k := by omega
        have hji : (j : Int) < n := by omega
        have hki2 : (k : Int) < n := by omega
        have hck := HB.out.cell (i := k) (by have := HN.out; omega)
        have hcj := HB.out.cell (i := j) (by have := HN.out; omega)
        have hfk := HB.out.frozen k
        have hfj := HB.out.frozen j
        have HS := Lib.hid (HR.out.step (by have := HN.out; omega))
        have gk : r.getD k 0 = r[k]'(by have := HN.out; omega) := by simp [List.getD, List.getElem?_eq_getElem (show k < r.length by have := HN.out; omega)]
        have gj : r.getD j 0 = r[j]'(by have := HN.out; omega) := by simp [List.getD, List.getElem?_eq_getElem (show j < r.length by have := HN.out; omega)]
        rw [HN.out, hj] at HS
        have HBS := Lib.hid ((HB.out.set k (r.getD j 0)).set j (r.getD k 0))
        rw [← gk] at hck
        rw [← gj] at hcj
        obtain ⟨xk, hxk⟩ : ∃ x, r.getD k 0 = x := ⟨_, rfl⟩
        obtain ⟨xj, hxj⟩ : ∃ x, r.getD j 0 = x := ⟨_, rfl⟩
        rw [hxk, hxj] at HS HBS
        rw [hxk] at hck
        rw [hxj] at hcj
        rw [ej]
        clear gk gj hxk hxj hj
        go_wp2_with fail
        go_region
        all_goals
          go_wp2_with fail
          go_roundw
          case rel => exact ⟨k + 1, _, by omega, by go_num, int_cong (by omega), HS.out, HBS.out.drew, ((hbel.setCell (p := ⟨g, k, none⟩) hB _).setCell (p := ⟨g, j, none⟩) hB _).drew⟩
          case measure => simp [intOf]; omega
      · have hki : (n : Int) - 1 - k ≤ k := by omega
        have HF := Lib.hid (HR.out.fin (by have := HN.out; omega))
        go_wp2_with fail
        go_end0
        have hf := HF.out
        subst hf
        exact ⟨⟨_, rfl⟩, HB.out, hbel⟩
end Go.Proofs.Ytphaojdfeojpeaa
