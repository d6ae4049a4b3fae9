/-
  Lemmas and contracts, joined.
-/
import Derived.Great.BuildSlice
import Derived.Test.YtchnaimpmegbkaaGreatDoorTfTw1
import Derived.Test.YtchnaimpmegbkaaGreatDoorTfTl1
import Derived.Test.YtchnaimpmegbkaaGreatDoorTfTc1
import Derived.Test.YtchnaimpmegbkaaGreatDoorTfTh1
import Derived.Test.YtchnaimpmegbkaaGreatDoorTfTl2
set_option linter.unusedSimpArgs false
set_option linter.unusedVariables false
set_option linter.unnecessarySimpa false
/- isWord and isCopy of the program; whether some row of a list fits a closure. -/
namespace Go.Proofs.YtchnaimpmegbkaaGreatDoor
open Go.RowKit
set_option linter.unusedVariables false

theorem beq4_word (l : List UInt8) (n : Nat) : ([(cn l 0 : Int), (cn l 1 : Int), (cn l 2 : Int), (cn l 3 : Int)] == [(cn l 0 : Int), (n : Int) - (cn l 0 : Int), 0, 0]) = wordB l n := by
  rw [Bool.eq_iff_iff, word_cn]
  simp
  omega
set_option maxHeartbeats 1000000 in
theorem isWord_any (A : Option Addr) (c : Nat) (l : List UInt8) (m : Nat) (w : World) {n : Nat} (hn : l.length = n) (h : BR w A c l) (hm : m ≤ 140737488351232) :
    Calls Tryz.prog 44 #[.slice A n c, .int .i64 (m : Int)] w fun e w' => e = .returned (.bool (wordB l m)) ∧ Below w.heap.size w w' := by
  have HN := Lib.hid hn
  have H := Lib.hid h
  have hlen : (n : Int) ≤ 140737488351232 := by have := h.len; omega
  have hm2 : (m : Int) ≤ 140737488351232 := by omega
  have hc0 : (cn l 0 : Int) ≤ n := by have := cn_le l 0; omega
  have HS := Lib.hid (beq4_word l m)
  have HC : Hid (cntV l = #[.int .i64 (cn l 0), .int .i64 (cn l 1), .int .i64 (cn l 2), .int .i64 (cn l 3)]) := rfl
  have heq := fun W => run_eql_4 W (cn l 0) (cn l 1) (cn l 2) (cn l 3) (cn l 0) ((m : Int) - cn l 0) 0 0
  clear hn h
  go_enter Tryz.func44, Tryz.ntmps44
  go_wp2_with (go_at_call 77; refine (counted_any A c l _ HN.out H.out).mono ?_; rintro e w' ⟨rfl, rfl⟩; rw [HC.out])
  go_ret
  exact ⟨ret_bool' (by have := HS.out; simpa using this), ((Below.refl _ _).alloc (Nat.le_refl _) _).alloc (by simp) _⟩
set_option maxHeartbeats 1000000 in
theorem isCopy_any (A : Option Addr) (c : Nat) (l : List UInt8) (m : Nat) (w : World) {n : Nat} (hn : l.length = n) (h : BR w A c l) (hm : m ≤ 140737488351232) :
    Calls Tryz.prog 45 #[.slice A n c, .int .i64 (m : Int)] w fun e w' => e = .returned (.bool (copyB l m)) ∧ Below w.heap.size w w' := by
  have hlen : (n : Int) ≤ 140737488351232 := by have := h.len; omega
  have HN := Lib.hid hn
  have H := Lib.hid h
  have HC : Hid (cntV l = #[.int .i64 (cn l 0), .int .i64 (cn l 1), .int .i64 (cn l 2), .int .i64 (cn l 3)]) := rfl
  have hcp := copy_cn l m
  have hix : ∀ W, (Instr.index 138 (.agg #[.int .i64 (cn l 0), .int .i64 (cn l 1), .int .i64 (cn l 2), .int .i64 (cn l 3)]) (.int .i64 3)).run Tryz.prog W = .ok (.int .i64 (cn l 3)) W := fun _ => by kernel_rfl
  by_cases e : n = m
  · have t1 : ((n : Int) == (m : Int)) = true := by simp; omega
    have t2 : (n == m) = true := by simp; omega
    have HS : Hid (((cn l 3 : Int) == 0) = copyB l m) := by unfold Hid; rw [Bool.eq_iff_iff, hcp]; simp; omega
    clear hn h e hcp
    go_enter Tryz.func45, Tryz.ntmps45
    go_wp2_with (go_at_call 77; refine (counted_any A c l _ HN.out H.out).mono ?_; rintro e w' ⟨rfl, rfl⟩; rw [HC.out])
    go_ret
    exact ⟨ret_bool' (by have := HS.out; simpa using this), (Below.refl _ _).alloc (Nat.le_refl _) _⟩
  · have HS : Hid (copyB l m = false) := by unfold Hid copyB; rw [hn]; simp [e]
    have t1 : ((n : Int) == (m : Int)) = false := by simp; omega
    have t2 : (n == m) = false := by simp; omega
    clear hn h e hcp
    go_enter Tryz.func45, Tryz.ntmps45
    go_wp2_with fail
    go_ret
    exact ⟨ret_bool' HS.out.symm, Below.refl _ _⟩

/-- The first index for which p holds, or -1. -/
def idxI (n : Nat) (p : Nat → Bool) : Int := match (List.range n).find? p with | some i => i | none => -1
def anyI (n : Nat) (p : Nat → Bool) : Bool := (List.range n).any p
theorem idxI_some {n k : Nat} {p : Nat → Bool} (hk : k < n) (hp : p k = true) (hlt : ∀ j, j < k → p j = false) : idxI n p = k := by
  have h : (List.range n).find? p = some k := by
    rw [List.find?_range_eq_some]
    exact ⟨by simpa using hp, by simpa using hk, fun j hj => by simp [hlt j hj]⟩
  unfold idxI
  rw [h]
theorem idxI_none {n : Nat} {p : Nat → Bool} (h : ∀ j, j < n → p j = false) : idxI n p = -1 := by
  have h : (List.range n).find? p = none := by
    rw [List.find?_eq_none]
    intro x hx
    rw [h x (List.mem_range.1 hx)]
    simp
  unfold idxI
  rw [h]
theorem idxI_any (n : Nat) (p : Nat → Bool) : decide (0 ≤ idxI n p) = anyI n p := by
  unfold idxI anyI
  cases h : (List.range n).find? p with
  | none =>
    rw [List.find?_eq_none] at h
    rw [Bool.eq_iff_iff]
    simp only [decide_eq_true_eq, List.any_eq_true]
    exact ⟨fun h => by omega, fun ⟨x, hx, hp⟩ => absurd hp (h x hx)⟩
  | some i =>
    have h1 := List.mem_of_find?_eq_some h
    have h2 := List.find?_some h
    rw [Bool.eq_iff_iff]
    simp only [decide_eq_true_eq, List.any_eq_true]
    exact ⟨fun _ => ⟨i, h1, h2⟩, fun _ => by omega⟩
theorem anyI_iff {n : Nat} {p : Nat → Bool} : anyI n p = true ↔ ∃ i, i < n ∧ p i = true := by simp [anyI]

set_option maxHeartbeats 1000000 in
set_option maxRecDepth 100000 in
theorem IndexRows_any (A : Option Addr) (c : Nat) (rs : List BRow) (F : FuncId) (cap : Array Value) (p : Nat → Bool) (w : World) (hE : ∀ args W, (callFunc F args).run Tryz.prog W = .ok (.enter F args) W) {n : Nat} (hn : rs.length = n) (h : Rd w 1 A c rs.length (rs.map BRow.v))
    (hf : ∀ i r W, rs[i]? = some r → Below w.heap.size w W → Calls Tryz.prog F (#[r.v] ++ cap) W fun e W' => e = .returned (.bool (p i)) ∧ Below W.heap.size W W') :
    Calls Tryz.prog 76 #[.slice A n c, .func (.func F) #[] cap] w fun e w' => e = .returned (.int .i64 (idxI n p)) ∧ Below w.heap.size w w' := by
  have hlen : (n : Int) ≤ 140737488351232 := by have := h.len; omega
  have HN := Lib.hid hn
  have H := Lib.hid h
  have HF := Lib.hid hf
  clear hn h hf
  go_enter Tryz.func76, Tryz.ntmps76
  go_wp2_with fail
  go_loopw [8] (fun vk wr => ∃ k : Nat, k ≤ n ∧ vk = .int .i64 k ∧ Hid (∀ j, j < k → p j = false) ∧ Below w.heap.size w wr) (fun vk _ => n - (intOf vk).toNat)
  case atStart => exact ⟨0, by omega, rfl, fun j hj => absurd hj (by omega), Below.refl _ _⟩
  case round =>
    obtain ⟨k, hk, rfl, HK, hbel⟩ := hrel
    by_cases hkn : k < n
    · obtain ⟨b, off, rfl, hb, v, hv, hc0⟩ := Rd.at1 H.out (i := k) (by have := HN.out; omega)
      have hc := (hbel.cell (p := ⟨b, off + k, none⟩) hb).trans hc0
      obtain ⟨r, hr, hrv⟩ : ∃ r, rs[k]? = some r ∧ r.v = v := by simpa [List.getElem?_map] using hv
      have HR := Lib.hid hr
      rw [← hrv] at hc
      have HC := HF.out k r wr hr hbel
      clear hc0 hv hr hrv
      rcases hp : p k with _ | _
      · have HK2 : Hid (∀ j, j < k + 1 → p j = false) := fun j hj => by
          rcases Nat.lt_or_ge j k with h' | h'
          · exact HK.out j h'
          · rw [show j = k from by omega]; exact hp
        rw [hp] at HC
        have HC2 := Lib.hid HC
        clear HC hp
        go_wp2_with fail
        refine HC2.out.mono ?_
        rintro e w1 ⟨rfl, hb1⟩
        go_wp2_with fail
        go_roundw
        case rel => exact ⟨k + 1, by omega, by go_num, HK2, hbel.trans (hb1.mono hbel.size)⟩
        case measure => simp [intOf]; omega
      · have HI : Hid (idxI n p = k) := idxI_some hkn hp HK.out
        rw [hp] at HC
        have HC2 := Lib.hid HC
        clear HC hp
        go_wp2_with fail
        refine HC2.out.mono ?_
        rintro e w1 ⟨rfl, hb1⟩
        go_wp2_with fail
        go_ret
        exact ⟨ret_int' HI.out.symm, hbel.trans (hb1.mono hbel.size)⟩
    · have HI : Hid (idxI n p = -1) := idxI_none fun j hj => HK.out j (by omega)
      go_wp2_with fail
      go_ret
      exact ⟨ret_int' HI.out.symm, hbel⟩
set_option maxHeartbeats 400000 in
theorem ContainsRows_any (A : Option Addr) (c : Nat) (rs : List BRow) (F : FuncId) (cap : Array Value) (p : Nat → Bool) (w : World) (hE : ∀ args W, (callFunc F args).run Tryz.prog W = .ok (.enter F args) W) {n : Nat} (hn : rs.length = n) (h : Rd w 1 A c rs.length (rs.map BRow.v))
    (hf : ∀ i r W, rs[i]? = some r → Below w.heap.size w W → Calls Tryz.prog F (#[r.v] ++ cap) W fun e W' => e = .returned (.bool (p i)) ∧ Below W.heap.size W W') :
    Calls Tryz.prog 42 #[.slice A n c, .func (.func F) #[] cap] w fun e w' => e = .returned (.bool (anyI n p)) ∧ Below w.heap.size w w' := by
  have HI := Lib.hid (IndexRows_any A c rs F cap p w hE hn h hf)
  have HA := Lib.hid (idxI_any n p)
  clear hn h hf hE
  go_enter Tryz.func42, Tryz.ntmps42
  go_wp2_with (go_at_call 76; refine HI.out.mono ?_; rintro e w1 ⟨rfl, hb1⟩)
  go_ret
  exact ⟨ret_bool' HA.out, hb1⟩
end Go.Proofs.YtchnaimpmegbkaaGreatDoor

/- Codes of scores in plain words. -/
namespace Go.Proofs.YtchnaimpmegbkaaGreatDoor
open Go.RowKit
set_option linter.unusedVariables false

/-- The integer with an index. -/
def it (l : List Int) (i : Nat) : Int := l.getD i 0
theorem it_in {l : List Int} {i : Nat} (h : i < l.length) : it l i = l[i] := by unfold it; simp [List.getD, List.getElem?_eq_getElem h]
theorem IR.at_ {w : World} {A : Option Addr} {c : Nat} {l : List Int} (h : IR w A c l) {i : Nat} (hi : i < l.length) :
    ∃ b off, A = some ⟨b, off, none⟩ ∧ b < w.heap.size ∧ w.cell? ⟨b, off + i, none⟩ = some (.int .i64 (it l i)) := by
  obtain ⟨b, off, e, hb, v, hv, hc⟩ := Rd.at1 h.1 hi
  refine ⟨b, off, e, hb, ?_⟩
  rw [hc, ← hv, it_in hi]
  simp [cellsI, List.getElem?_eq_getElem hi]
theorem IR.below {w w' : World} {A : Option Addr} {c : Nat} {l : List Int} (h : IR w A c l) (hb : Below w.heap.size w w') : IR w' A c l := ⟨h.1.below hb, h.2⟩
theorem IR.len {w : World} {A : Option Addr} {c : Nat} {l : List Int} (h : IR w A c l) : l.length ≤ 140737488351232 := h.1.len
end Go.Proofs.YtchnaimpmegbkaaGreatDoor

/- Rows of ints of the call's own; rows of bools in a block. -/
namespace Go.Proofs.YtchnaimpmegbkaaGreatDoor
open Go.RowKit
set_option linter.unusedVariables false
set_option linter.unusedSimpArgs false

def OI (B : Nat) (w : World) (A : Option Addr) (c : Nat) (l : List Int) : Prop := w.ownsRow B 3 1 (.slice A l.length c) l.length (cellsI l)
theorem int_info' : (Tryz.prog.info? 3).map (fun i => (i.zero, i.size, i.bytes)) = some (some (.int .i64 0), 1, 8) := by kernel_rfl
theorem cellsI_append (a b : List Int) : cellsI (a ++ b) = cellsI a ++ cellsI b := by simp [cellsI]
theorem OI.below {B : Nat} {w w' : World} {A : Option Addr} {c : Nat} {l : List Int} (h : OI B w A c l) (hb : Below w.heap.size w w') : OI B w' A c l := ownsRow_below h hb
theorem OI.nil (B : Nat) (w : World) : OI B w none 0 [] := World.ownsRow_nil w B _ 1
theorem OI.ir {B : Nat} {w : World} {A : Option Addr} {c : Nat} {l : List Int} (h : OI B w A c l) (hl : l.length ≤ 140737488351232) (hb : ∀ x ∈ l, -9223372036854775808 ≤ x ∧ x ≤ 9223372036854775807) : IR w A c l := ⟨Rd.of_own h hl, hb⟩
theorem OI.le_ {B B' : Nat} {w : World} {A : Option Addr} {c : Nat} {l : List Int} (h : OI B w A c l) (hB : B' ≤ B) : OI B' w A c l :=
  ⟨h.1, h.2.elim Or.inl (fun ⟨g, cap, cur, hv, hg, r⟩ => Or.inr ⟨g, cap, cur, hv, Nat.le_trans hB hg, r⟩)⟩
theorem OI.lit (B : Nat) (w : World) (l : List Int) (hB : B ≤ w.heap.size) (hl : l.length ≤ 1000000) {n : Nat} (hn : l.length = n) : OI B (w.alloc (.cells (cellsI l).toArray 3)) (some ⟨w.heap.size, 0, none⟩) n l := by
  subst hn
  exact World.ownsRow_lit (e := 3) (size := 1) w (cellsI l).toArray l.length hB (by simp only [maxLen]; omega) (by simp [cellsI])
/-- A row just made, over its whole block. -/
theorem Blk.oi {B : Nat} {w : World} {g : Nat} {l : List Int} {n c : Nat} (h : Blk w g 3 (cellsI l).toArray) (hB : B ≤ g) (hn : l.length = n) (hc : c = n) (hc2 : n ≤ 1000000) : OI B w (some ⟨g, 0, none⟩) c l := by
  subst hn hc
  refine ⟨by simp [cellsI], .inr ⟨g, l.length, (cellsI l).toArray, rfl, hB, h, Nat.le_refl _, by simp only [maxLen]; omega, by simp [cellsI], ?_⟩⟩
  rw [Nat.mul_one]
  exact List.take_of_length_le (by simp [cellsI])
theorem wpList_append_int (w : World) {ops : Array Oper} {rest : List Oper} {o : Oper} {a : Act} {Q : Exit → Act → World → Prop} (hgd : o.guard = none) (s x : Operand)
    (ho : o.op = .call { callee := .builtin .append, args := #[s, x], argTypes := #[55, 55] })
    (B : Nat) (A : Option Addr) (n c : Nat) (l : List Int) (hn : l.length = n) (hs : a.eval s = .slice A n c) (hown : OI B w A c l)
    (v : Int) (X : Option Addr) (d : Nat) (hx : a.eval x = .slice X 1 d) (hsrc : Src w 1 X 1 [.int .i64 v])
    (hlen : (n + 1) * 8 ≤ 140737488355328) (hB : B ≤ w.heap.size)
    (h : ∀ A' c' w', OI B w' A' c' (l ++ [v]) → Below B w w' → w.grownBy w' (Value.ownBlock (.slice A n c)) → wpList Tryz.prog ops Q rest (a.put o.dst (.slice A' (n + 1) c')) w') : wpList Tryz.prog ops Q (o :: rest) a w := by
  obtain ⟨i0, hi, hz0, hz1, hz2⟩ := info_parts int_info'
  subst hn
  refine wpList_append_src w hgd s x 55 ho B 3 i0 (.int .i64 0) 1 8 Tryz.underlying55 hi hz0 hz1 hz2 rfl (by omega) A l.length c (cellsI l) hs hown X 1 d [.int .i64 v] hx hsrc (by intro u hu; rw [List.mem_singleton.1 hu]; rfl)
    (by simp only [maxLen]; omega) hlen hB ?_
  intro A' c' w' h1 h2 h3
  have e : (l ++ [v]).length = l.length + 1 := by simp
  refine h A' c' w' ?_ (grown_below (Below.refl _ _) hown h2 hB (Nat.le_refl _)) h2
  unfold OI
  rw [cellsI_append, e]
  exact h1
theorem made_ints (n : Nat) : madeCells #[Value.int .i64 0] n = (cellsI (List.replicate n 0)).toArray := by
  apply Array.toList_inj.1
  rw [toList_madeCells_one]
  simp [cellsI]

/-- Bools in a block. -/
def cellsT (n : Nat) (p : Nat → Bool) : List Value := (List.range n).map fun i => .bool (p i)
theorem cellsT_get {n i : Nat} {p : Nat → Bool} (hi : i < n) : (cellsT n p).toArray[i]? = some (.bool (p i)) := by simp [cellsT, hi]
theorem cellsT_congr {n : Nat} {p q : Nat → Bool} (h : ∀ i, i < n → p i = q i) : cellsT n p = cellsT n q := by
  refine List.ext_getElem (by simp [cellsT]) fun i h1 h2 => ?_
  have : i < n := by simpa [cellsT] using h1
  simp [cellsT, h i this]
theorem cellsT_put {n i : Nat} {p : Nat → Bool} {b : Bool} (hi : i < n) : (cellsT n p).toArray.setIfInBounds i (.bool b) = (cellsT n (fun j => if j = i then b else p j)).toArray := by
  rw [List.setIfInBounds_toArray]
  congr 1
  refine List.ext_getElem (by simp [cellsT]) fun j h1 h2 => ?_
  simp only [cellsT, List.getElem_set, List.getElem_map, List.getElem_range]
  by_cases e : i = j
  · subst e; simp
  · rw [if_neg e, if_neg (fun h => e h.symm)]
theorem made_bools (n : Nat) : madeCells #[Value.bool false] n = (cellsT n (fun _ => false)).toArray := by
  apply Array.toList_inj.1
  rw [toList_madeCells_one]
  refine List.ext_getElem (by simp [cellsT]) fun j h1 h2 => ?_
  simp [cellsT]
end Go.Proofs.YtchnaimpmegbkaaGreatDoor

/- A code of steps, laid out: the columns' order and the block that holds it. -/
namespace Go.Proofs.YtchnaimpmegbkaaGreatDoor
open Go.RowKit
set_option linter.unusedVariables false
set_option linter.unusedSimpArgs false

theorem fill_stepC (place : Nat → Option (Nat × Nat)) (cells : Array Value) (i off size : Nat) (v : Value) (vs : List Value) (rest : List (Nat × Value)) (hp : place i = some (off, size)) (hv : v.cells = vs.toArray) (hs : vs.length = size) (hf : off + size ≤ cells.size) :
    Instr.fill place cells ((i, v) :: rest) = Instr.fill place (cells.toList.take off ++ (vs ++ cells.toList.drop (off + size))).toArray rest := by
  rw [Instr.fill, hp]
  simp only [hv, List.size_toArray]
  rw [if_neg (by simp [hs]; omega)]
  congr 1
  have e := Great.foldl_set off vs 0 cells
  rw [← Array.foldl_toList, Array.toList_zipIdx]
  apply Array.ext_getElem?
  intro k
  rw [e.2 k]
  simp only [List.getElem?_toArray, List.getElem?_append, List.length_take, Array.length_toList, List.getElem?_take, List.getElem?_drop, Array.getElem?_toList]
  by_cases h1 : k < off
  · rw [if_neg (by omega), if_pos (by omega), if_pos h1]
  · rw [if_neg (show ¬ k < min off cells.size by omega)]
    rw [show min off cells.size = off from by omega]
    by_cases h2 : k - off < vs.length
    · rw [if_pos (by omega), if_pos h2, Nat.add_zero]
    · rw [if_neg (by omega), if_neg h2, show off + size + (k - off - vs.length) = k from by omega]
section
variable {P : Program} {md : Region.Mode} {ops : Array Oper} {Q : Exit → Act → World → Prop} {S : World → Prop} {fuel : Nat} {listed : Array Bool} {a : Act} {w : World}
/-- A value is made of its parts. -/
theorem hd_buildC (i : Nat) {oi : Oper} (t : TypeId) (parts : Array (Nat × Operand)) (vs : List (Nat × Value)) (cells : Array Value) (hi : ops[i]? = some oi) (ho : oi.op = .build t parts) (hg : oi.guard = none)
    (hs : Region.noSelect ops = true) (hf : Region.free md ops listed i = true) (hr : (Region.ready md ops listed).contains i = true) (hQ : ∀ c a w, Q (.panic c) (a.put oi.dst (.agg cells)) w → Q (.panic c) a w)
    (hv : (parts.map fun (i, x) => (i, a.eval x)).toList = vs) (hb : P.built t vs = some cells) (hw : S w)
    (h : wpAnyH P md ops Q S fuel (listed.setIfInBounds i true) (a.put oi.dst (.agg cells)) w) : wpAnyH P md ops Q S (fuel + 1) listed a w :=
  hd_take i (.agg cells) hi hg hs hf hr hQ (fun w _ => by
    unfold execOp
    rw [ho]
    simp only [Sem.run_bind, run_build w t _ cells (by rw [hv]; exact hb), Result.andThen_ok]
    rfl) hw h
theorem hd_build2 (i : Nat) {oi : Oper} (t : TypeId) (v0 v1 : Value) (cells : Array Value) (x0 x1 : Operand) (hi : ops[i]? = some oi) (ho : oi.op = .build t #[(0, x0), (1, x1)]) (hg : oi.guard = none)
    (hs : Region.noSelect ops = true) (hf : Region.free md ops listed i = true) (hr : (Region.ready md ops listed).contains i = true) (hQ : ∀ c a w, Q (.panic c) (a.put oi.dst (.agg cells)) w → Q (.panic c) a w)
    (h0 : a.eval x0 = v0) (h1 : a.eval x1 = v1) (hb : P.built t [(0, v0), (1, v1)] = some cells) (hw : S w)
    (h : wpAnyH P md ops Q S fuel (listed.setIfInBounds i true) (a.put oi.dst (.agg cells)) w) : wpAnyH P md ops Q S (fuel + 1) listed a w :=
  hd_buildC i t _ _ cells hi ho hg hs hf hr hQ (by simp [h0, h1]) hb hw h
theorem op_skip {i : Nat} {oi : Oper} {K : Act → World → Prop} (w' : World) (hi : ops[i]? = some oi) (hg : oi.guard = none) (hrun : (execOp a.eval oi).run P w = .ok .skip w') (h : K (a.put oi.dst undef) w') : wpOp P ops Q i K a w := by
  have hw : Region.wanted oi (yielded ops a.tmps) = true := by simp [Region.wanted, hg]
  unfold wpOp
  simp only [hi, hw, if_true]
  refine .inl ?_
  unfold Oper.wp
  rw [hrun]
  exact h
end

/-- A row of ints, given by numbers. -/
def natI (l : List Nat) : List Int := l.map fun (x : Nat) => (x : Int)
def cellsL (l : List Nat) : List Value := cellsI (natI l)
theorem cellsL_get {l : List Nat} {i : Nat} (hi : i < l.length) : (cellsL l).toArray[i]? = some (.int .i64 ((l.getD i 0 : Nat) : Int)) := by
  simp [cellsL, cellsI, natI, List.getD_eq_getElem?_getD, hi]
theorem cellsL_put (l : List Nat) (i x : Nat) : (cellsL l).toArray.setIfInBounds i (.int .i64 (x : Int)) = (cellsL (l.set i x)).toArray := by
  rw [List.setIfInBounds_toArray]
  congr 1
  refine List.ext_getElem (by simp [cellsL, cellsI, natI]) fun j h1 h2 => ?_
  simp only [cellsL, cellsI, natI, List.getElem_set, List.getElem_map]
  split <;> rfl
/-- The first i places hold their own numbers. -/
def fillL (n i : Nat) : List Nat := (List.range n).map fun j => if j < i then j else 0
theorem fillL_length (n i : Nat) : (fillL n i).length = n := by simp [fillL]
theorem fillL_set {n i : Nat} (h : i < n) : (fillL n i).set i i = fillL n (i + 1) := by
  refine List.ext_getElem (by simp [fillL]) fun j h1 h2 => ?_
  simp only [fillL, List.getElem_set, List.getElem_map, List.getElem_range]
  by_cases e : i = j
  · subst e; simp
  · rw [if_neg e]
    have : (j < i) ↔ (j < i + 1) := by omega
    simp [this]
theorem fillL_zero (n : Nat) : fillL n 0 = List.replicate n 0 := by
  refine List.ext_getElem (by simp [fillL]) fun j h1 h2 => ?_
  simp [fillL]
theorem fillL_all (n : Nat) : fillL n n = List.range n := by
  refine List.ext_getElem (by simp [fillL]) fun j h1 h2 => ?_
  have : j < n := by simpa [fillL] using h1
  simp [fillL, this]
theorem made_L (n : Nat) : madeCells #[Value.int .i64 0] n = (cellsL (fillL n 0)).toArray := by
  rw [made_ints, fillL_zero, cellsL, natI]
  simp
/-- The columns in their order. -/
def StV.n (s : StV) : Nat := ((s.u - 1) * s.b).toNat
def StV.num (s : StV) (i : Nat) : Nat := (numS (derS s.k 70 0) (UInt64.ofNat i) (UInt64.ofNat (i + 1))).toNat
def StV.at_ (s : StV) : List Nat := arrS s.num s.n
theorem num_small {k : List UInt8} {n : UInt64} {i : Nat} (hi : i < 100000) : (numS k n (UInt64.ofNat (i + 1))).toNat ≤ i := by
  have e : (UInt64.ofNat (i + 1)).toNat = i + 1 := by rw [UInt64.toNat_ofNat']; omega
  have h0 : UInt64.ofNat (i + 1) ≠ 0 := fun h => by
    have := congrArg UInt64.toNat h
    rw [e] at this
    cases this
  rw [numS_pos h0, UInt64.toNat_mod, e]
  have := Nat.mod_lt (wds (derS k 3 n)).1.toNat (show 0 < i + 1 by omega)
  omega
theorem StV.num_le (s : StV) {i : Nat} (hi : i < 100000) : s.num i ≤ i := num_small hi
theorem StV.arr {s : StV} (h : s.n ≤ 100000) : ArrL s.at_ s.n := arr_arrS fun i hi => s.num_le (by omega)
theorem StV.n_le {s : StV} (h : s.ok = true) : 1 ≤ s.n ∧ s.n ≤ 960 ∧ ((s.n : Nat) : Int) = (s.u - 1) * s.b := by
  obtain ⟨⟨q1, q2, q3, q4⟩, _⟩ := StV.parts h
  obtain ⟨d, hd⟩ : ∃ d : Nat, s.b = (d : Int) := ⟨s.b.toNat, by omega⟩
  obtain ⟨u, hu⟩ : ∃ u : Nat, s.u - 1 = (u : Int) := ⟨(s.u - 1).toNat, by omega⟩
  have e : s.n = u * d := by unfold StV.n; rw [hu, hd, ← Int.natCast_mul, Int.toNat_natCast]
  have h1 : u * d ≤ 15 * 64 := Nat.mul_le_mul (by omega) (by omega)
  have h2 : 1 * 1 ≤ u * d := Nat.mul_le_mul (by omega) (by omega)
  refine ⟨by omega, by omega, ?_⟩
  rw [e, hu, hd, Int.natCast_mul]
def StV.stc (s : StV) (ga : Nat) : List Value := s.cs ++ [.slice (some ⟨ga, 0, none⟩) s.n s.n]
theorem StV.stc_all (s : StV) (ga : Nat) : (s.stc ga).toArray.all (·.oneCell') = true := by
  have := s.all
  rw [StV.stc, Array.all_eq_true'] at *
  intro v hv
  simp only [List.mem_toArray, List.mem_append, List.mem_singleton] at hv
  rcases hv with hv | rfl
  · exact this v (by simpa using hv)
  · rfl
theorem StV.stc20 {s : StV} (h : s.k.length = 16) (ga : Nat) : (s.stc ga).toArray[20]? = some (.slice (some ⟨ga, 0, none⟩) s.n s.n) := by
  have := StV.len h
  simp [StV.stc, List.getElem?_append, this]
theorem StV.stc0 (s : StV) (ga : Nat) : (s.stc ga).toArray[0]? = some (.int .i64 s.u) := by simp [StV.stc, StV.cs]
theorem StV.stc1 (s : StV) (ga : Nat) : (s.stc ga).toArray[1]? = some (.int .i64 s.b) := by simp [StV.stc, StV.cs]
theorem StV.built {s : StV} (h : s.k.length = 16) (ga : Nat) : Tryz.prog.built 135 [(0, .agg s.cs.toArray), (1, .slice (some ⟨ga, 0, none⟩) s.n s.n)] = some (s.stc ga).toArray := by
  have hl := StV.len h
  have e : ∀ x : Value, Tryz.prog.built 135 [(0, .agg s.cs.toArray), (1, x)] = Instr.fill ((#[(0, 20), (20, 1)] : Array (Nat × Nat))[·]?) (.int .i64 0 :: .int .i64 0 :: (cellsB zeroK ++ [.slice none 0 0, .slice none 0 0, .slice none 0 0])).toArray [(0, .agg s.cs.toArray), (1, x)] := fun x => by kernel_rfl
  rw [e]
  obtain ⟨z, hz', hz⟩ : ∃ z : Array Value, (Value.int .i64 0 :: .int .i64 0 :: (cellsB zeroK ++ [.slice none 0 0, .slice none 0 0, .slice none 0 0])).toArray = z ∧ z.size = 21 := ⟨_, rfl, rfl⟩
  rw [hz']
  rw [fill_stepC _ z 0 0 20 _ s.cs _ rfl rfl hl (by omega)]
  have s1 : (z.toList.take 0 ++ (s.cs ++ z.toList.drop (0 + 20))).length = 21 := by simp [hl, hz]
  rw [fill_stepC _ _ 1 20 1 _ [.slice (some ⟨ga, 0, none⟩) s.n s.n] _ rfl rfl rfl (by rw [List.size_toArray, s1]; omega)]
  rw [Instr.fill]
  refine congrArg (fun l => some (List.toArray l)) ?_
  simp [List.take_append, List.drop_append, List.take_of_length_le, List.drop_of_length_le, hl, hz, StV.stc]
/-- The code laid out. -/
structure Laid (w : World) (s : StV) (g ga : Nat) : Prop where
  hg : Blk w g 135 (s.stc ga).toArray
  ha : Blk w ga 3 (cellsL s.at_).toArray
theorem Laid.below {w w' : World} {s : StV} {g ga : Nat} (h : Laid w s g ga) (hb : Below w.heap.size w w') : Laid w' s g ga := ⟨h.hg.below' hb, h.ha.below' hb⟩
theorem Laid.cells {w : World} {s : StV} {g ga : Nat} (h : Laid w s g ga) (hk : s.k.length = 16) : w.cell? ⟨g, 0, none⟩ = some (.int .i64 s.u) ∧ w.cell? ⟨g, 1, none⟩ = some (.int .i64 s.b) ∧ w.cell? ⟨g, 20, none⟩ = some (.slice (some ⟨ga, 0, none⟩) s.n s.n) :=
  ⟨(h.hg.cell 0).trans (s.stc0 ga), (h.hg.cell 1).trans (s.stc1 ga), (h.hg.cell 20).trans (StV.stc20 hk ga)⟩
theorem Laid.at {w : World} {s : StV} {g ga : Nat} (h : Laid w s g ga) (hn : s.n ≤ 100000) {i : Nat} (hi : i < s.n) : w.cell? ⟨ga, i, none⟩ = some (.int .i64 ((s.at_.getD i 0 : Nat) : Int)) :=
  (h.ha.cell i).trans (cellsL_get (by rw [(StV.arr hn).1]; exact hi))
theorem Laid.range {w : World} {s : StV} {g ga : Nat} (h : Laid w s g ga) : w.rangeAt g 0 s.cs := fun j v hv => by
  rw [Nat.zero_add, h.hg.cell j]
  have hlt : j < s.cs.length := (List.getElem?_eq_some_iff.1 hv).1
  rw [List.getElem?_toArray, StV.stc, List.getElem?_append_left hlt]
  exact hv
end Go.Proofs.YtchnaimpmegbkaaGreatDoor

/- Words and weights of a code of steps laid out: the program's. -/
namespace Go.Proofs.YtchnaimpmegbkaaGreatDoor
open Go.RowKit
set_option linter.unusedVariables false
set_option linter.unusedSimpArgs false

theorem cellsB_put (l : List UInt8) (i : Nat) : (cellsB l).toArray.setIfInBounds i (.int .u8 1) = (cellsB (l.set i 1)).toArray := by
  rw [List.setIfInBounds_toArray]
  congr 1
  refine List.ext_getElem (by simp [cellsB]) fun j h1 h2 => ?_
  simp only [cellsB, List.getElem_set, List.getElem_map]
  split <;> rfl
theorem cellsB_at {l : List UInt8} {i : Nat} (hi : i < l.length) : (cellsB l).toArray[i]? = some (.int .u8 (bt l i : Int)) := by
  rw [bt_in hi]
  simp [cellsB, hi]
def StV.word (s : StV) (x : Nat) : List UInt8 := stepWord s.at_ s.n (x * s.b.toNat)
def StV.wts (s : StV) (y : List UInt8) : List Nat := weightsS s.at_ y s.b.toNat (s.u.toNat - 1)
/-- The parts of a code that is in order. -/
theorem StV.nats {s : StV} (h : s.ok = true) : ∃ d m : Nat, s.b = (d : Int) ∧ s.u = ((m + 1 : Nat) : Int) ∧ 1 ≤ d ∧ d ≤ 64 ∧ 1 ≤ m ∧ m ≤ 15 ∧ s.n = m * d := by
  obtain ⟨⟨q1, q2, q3, q4⟩, _⟩ := StV.parts h
  refine ⟨s.b.toNat, s.u.toNat - 1, by omega, by omega, by omega, by omega, by omega, by omega, ?_⟩
  obtain ⟨d, hd⟩ : ∃ d : Nat, s.b = (d : Int) := ⟨s.b.toNat, by omega⟩
  obtain ⟨u, hu⟩ : ∃ u : Nat, s.u = ((u + 1 : Nat) : Int) := ⟨(s.u - 1).toNat, by omega⟩
  have e : s.u - 1 = (u : Int) := by omega
  unfold StV.n
  rw [e, hd, ← Int.natCast_mul, Int.toNat_natCast, Int.toNat_natCast, hu, Int.toNat_natCast, Nat.add_sub_cancel]

set_option maxHeartbeats 4000000 in
set_option maxRecDepth 1000000 in
theorem word_any (s : StV) (g ga x : Nat) (w : World) (hk : s.k.length = 16) (hok : s.ok = true) (h : Laid w s g ga) (hx : (x : Int) < s.u) :
    Calls Tryz.prog 41 #[.pointer (some ⟨g, 0, none⟩), .int .i64 (x : Int)] w fun e w' => e = .returned (.slice (some ⟨w.heap.size, 0, none⟩) s.n s.n) ∧ Blk w' w.heap.size 5 (cellsB (s.word x)).toArray ∧ Below w.heap.size w w' := by
  obtain ⟨d, m, hd, hu, hd1, hd2, hm1, hm2, hn⟩ := StV.nats hok
  obtain ⟨hn1, hn2, -⟩ := StV.n_le hok
  have HAR := Lib.hid (StV.arr (s := s) (by omega))
  have HCL : Hid (∀ W, Below w.heap.size w W → W.cell? ⟨g, 1, none⟩ = some (.int .i64 (d : Int)) ∧ W.cell? ⟨g, 20, none⟩ = some (.slice (some ⟨ga, 0, none⟩) s.n s.n)) := fun W hW => by
    obtain ⟨-, c1, c20⟩ := (h.below hW).cells hk
    rw [hd] at c1
    exact ⟨c1, c20⟩
  have HEL : Hid (∀ W, Below w.heap.size w W → ∀ i, i < s.n → W.cell? ⟨ga, i, none⟩ = some (.int .i64 ((s.at_.getD i 0 : Nat) : Int))) := fun W hW i hi => (h.below hW).at (by omega) hi
  have hgs : Hid (g < w.heap.size) := h.hg.lt
  obtain ⟨lo, hlo⟩ : ∃ lo, x * d = lo := ⟨_, rfl⟩
  have hxm : x ≤ m := by omega
  have hlon : lo ≤ s.n := by rw [hn, ← hlo]; exact Nat.mul_le_mul_right _ hxm
  have e2' : (x : Int) * (d : Int) = (lo : Int) := by rw [← hlo, Int.natCast_mul]
  have e2 : IntKind.i64.wrap ((x : Int) * (d : Int)) = (lo : Int) := by rw [e2', IntKind.wrap_i64]; omega
  have hW_ : s.word x = stepWord s.at_ s.n lo := by unfold StV.word; rw [hd, Int.toNat_natCast, hlo]
  rw [hW_]
  have HWS : Hid (∀ y, wordF s.at_ s.n lo s.n = y → stepWord s.at_ s.n lo = y) := fun y hy => hy
  generalize s.at_ = at_ at HAR HEL HWS ⊢
  generalize s.n = n at *
  clear h hn hok hlo hd hu hW_ hx
  have hni : (n : Int) ≤ 960 := by omega
  have hmk : (Instr.makeSlice 31 (.int .i64 (n : Int)) (.int .i64 (n : Int))).run Tryz.prog w = .ok (.slice (some ⟨w.heap.size, 0, none⟩) n n) (w.alloc (.cells (cellsB (List.replicate n 0)).toArray 5)) := by
    have := run_make_row' (P := Tryz.prog) 31 5 (.int .u8 0) 1 Tryz.underlying31 (by kernel_rfl) rfl .i64 .i64 n (by omega) (by omega) w
    rwa [made_bytes] at this
  obtain ⟨g2, hg2⟩ : ∃ g2, w.heap.size = g2 := ⟨_, rfl⟩
  obtain ⟨wm, hwm⟩ : ∃ W, W = w.alloc (.cells (cellsB (List.replicate n 0)).toArray 5) := ⟨_, rfl⟩
  have BM : Hid (Blk wm g2 5 (cellsB (wordF at_ n lo lo)).toArray) := by
    unfold Hid
    rw [wordF_low at_ n lo (Nat.le_refl _), hwm, ← hg2]
    exact Blk.new _ _ _
  have DM : Hid (Below w.heap.size w wm) := by unfold Hid; rw [hwm]; exact alloc_bel _ _
  rw [← hwm, hg2] at hmk
  rw [hg2] at DM HCL HEL ⊢
  have HGS : Hid (w.heap.size = g2) := hg2
  obtain ⟨c1, c20⟩ := HCL.out _ (Below.refl _ _)
  obtain ⟨c1m, c20m⟩ := HCL.out _ DM.out
  clear hwm hg2 hgs
  go_enter Tryz.func41, Tryz.ntmps41
  go_wp2_with fail
  clear c1 c20 c1m c20m
  go_loopw [6] (fun vi wr => ∃ i : Nat, lo ≤ i ∧ i ≤ n ∧ vi = .int .i64 (i : Int) ∧ Hid (Blk wr g2 5 (cellsB (wordF at_ n lo i)).toArray) ∧ Below g2 w wr) (fun vi _ => n - (intOf vi).toNat)
  case atStart => exact ⟨lo, Nat.le_refl _, hlon, by first | rfl | (rw [e2]), BM.out, DM.out⟩
  case round =>
    obtain ⟨i, hli, hi, rfl, HB, hbel⟩ := hrel
    obtain ⟨c1, c20⟩ := HCL.out _ hbel
    by_cases hlt : i < n
    · have hii : (i : Int) < n := by omega
      have hi0 : (0 : Int) ≤ i := by omega
      have kat := HEL.out _ hbel i hlt
      have HS := Lib.hid (wordF_yes (at_ := at_) (n := n) hli)
      have hpl := HAR.out.2.1 i hlt
      obtain ⟨p, hp⟩ : ∃ p, at_.getD i 0 = p := ⟨_, rfl⟩
      rw [hp] at kat hpl HS
      have hpi : (p : Int) < n := by omega
      have hp0 : (0 : Int) ≤ p := by omega
      have kp := (HB.out.cell p).trans (cellsB_at (by rw [wordF_length]; exact hpl))
      have fp := HB.out.frozen p
      have B5 := HB.out.set_ p (.int .u8 1)
      rw [cellsB_put, ← HS.out] at B5
      have B6 := Lib.hid B5
      have D5 := Lib.hid (hbel.setCell (p := ⟨g2, p, none⟩) (Nat.le_refl _) (.int .u8 1))
      clear hp B5 HB
      generalize wordF at_ n lo i = l1 at kp HS
      generalize bt l1 p = bz at kp
      go_wp2_with fail
      go_roundw
      case rel => exact ⟨i + 1, by omega, by omega, by go_num, B6.out, D5.out⟩
      case measure => simp [intOf]; omega
    · obtain rfl : i = n := by omega
      have hx : ¬ ((i : Int) < i) := by omega
      go_wp2_with fail
      go_ret
      exact ⟨rfl, by rw [HWS.out _ rfl]; exact HB.out, hbel⟩

set_option maxHeartbeats 4000000 in
set_option maxRecDepth 1000000 in
theorem weights_any (s : StV) (g ga : Nat) (Y : Option Addr) (c : Nat) (y : List UInt8) (w : World) (hk : s.k.length = 16) (hok : s.ok = true) (h : Laid w s g ga) {n0 : Nat} (hy : y.length = n0) (hn0 : n0 = s.n) (hY : BR w Y c y) :
    Calls Tryz.prog 78 #[.pointer (some ⟨g, 0, none⟩), .slice Y n0 c] w fun e w' => e = .returned (.slice (some ⟨w.heap.size, 0, none⟩) (s.u.toNat - 1) (s.u.toNat - 1)) ∧ Blk w' w.heap.size 3 (cellsL (s.wts y)).toArray ∧ Below w.heap.size w w' := by
  obtain ⟨d, m, hd, hu, hd1, hd2, hm1, hm2, hn⟩ := StV.nats hok
  obtain ⟨hn1, hn2, -⟩ := StV.n_le hok
  have HAR := Lib.hid (StV.arr (s := s) (by omega))
  have HCL : Hid (∀ W, Below w.heap.size w W → W.cell? ⟨g, 0, none⟩ = some (.int .i64 ((m : Int) + 1)) ∧ W.cell? ⟨g, 1, none⟩ = some (.int .i64 (d : Int)) ∧ W.cell? ⟨g, 20, none⟩ = some (.slice (some ⟨ga, 0, none⟩) s.n s.n)) := fun W hW => by
    obtain ⟨c0, c1, c20⟩ := (h.below hW).cells hk
    rw [hd] at c1
    rw [hu] at c0
    exact ⟨c0, c1, c20⟩
  have HEL : Hid (∀ W, Below w.heap.size w W → ∀ i, i < s.n → W.cell? ⟨ga, i, none⟩ = some (.int .i64 ((s.at_.getD i 0 : Nat) : Int))) := fun W hW i hi => (h.below hW).at (by omega) hi
  have hW_ : s.wts y = weightsS s.at_ y d m := by unfold StV.wts; rw [hd, hu, Int.toNat_natCast, Int.toNat_natCast, Nat.add_sub_cancel]
  have hum : s.u.toNat - 1 = m := by rw [hu, Int.toNat_natCast, Nat.add_sub_cancel]
  rw [hW_, hum]
  have HWS : Hid (∀ z, weightF s.at_ y d m s.n = z → weightsS s.at_ y d m = z) := fun z hz => by unfold weightsS; rw [(StV.arr (s := s) (by omega)).1]; exact hz
  have HDV : Hid (∀ i, i < s.n → i / d < m) := fun i hi => by rw [Nat.div_lt_iff_lt_mul (by omega), ← hn]; exact hi
  generalize s.at_ = at_ at HAR HEL HWS ⊢
  subst hn0
  generalize s.n = n at *
  have HYB := Lib.hid hY
  have HYL := Lib.hid hy
  clear h hn hok hd hu hW_ hum hY hy
  have hni : (n : Int) ≤ 960 := by omega
  have hmi : (m : Int) ≤ 15 := by omega
  have hdi : (1 : Int) ≤ d := by omega
  have hdi2 : (d : Int) ≤ 64 := by omega
  have hdn : ¬ ((d : Int) = 0) := by omega
  have hmk : (Instr.makeSlice 55 (.int .i64 (m : Int)) (.int .i64 (m : Int))).run Tryz.prog w = .ok (.slice (some ⟨w.heap.size, 0, none⟩) m m) (w.alloc (.cells (cellsL (List.replicate m 0)).toArray 3)) := by
    have := run_make_row' (P := Tryz.prog) 55 3 (.int .i64 0) 8 Tryz.underlying55 (by kernel_rfl) rfl .i64 .i64 m (by omega) (by omega) w
    rwa [made_L, fillL_zero] at this
  obtain ⟨g2, hg2⟩ : ∃ g2, w.heap.size = g2 := ⟨_, rfl⟩
  obtain ⟨wm, hwm⟩ : ∃ W, W = w.alloc (.cells (cellsL (List.replicate m 0)).toArray 3) := ⟨_, rfl⟩
  have BM : Hid (Blk wm g2 3 (cellsL (weightF at_ y d m 0)).toArray) := by
    unfold Hid
    rw [hwm, ← hg2]
    exact Blk.new _ _ _
  have DM : Hid (Below w.heap.size w wm) := by unfold Hid; rw [hwm]; exact alloc_bel _ _
  have HYW : Hid (∀ W, Below w.heap.size w W → BR W Y c y) := fun W hW => HYB.out.below hW
  rw [← hwm, hg2] at hmk
  rw [hg2] at DM HCL HEL HYW ⊢
  obtain ⟨c0, c1, c20⟩ := HCL.out _ (Below.refl _ _)
  obtain ⟨c0m, c1m, c20m⟩ := HCL.out _ DM.out
  clear hwm hg2
  go_enter Tryz.func78, Tryz.ntmps78
  go_wp2_with fail
  clear c0 c1 c20 c0m c1m c20m
  go_loopw [20] (fun vi wr => ∃ i : Nat, i ≤ n ∧ vi = .int .i64 (i : Int) ∧ Hid (Blk wr g2 3 (cellsL (weightF at_ y d m i)).toArray) ∧ Below g2 w wr) (fun vi _ => n - (intOf vi).toNat)
  case atStart => exact ⟨0, by omega, rfl, BM.out, DM.out⟩
  case round =>
    obtain ⟨i, hi, rfl, HB, hbel⟩ := hrel
    obtain ⟨c0, c1, c20⟩ := HCL.out _ hbel
    by_cases hlt : i < n
    · have hii : (i : Int) < n := by omega
      have hi0 : (0 : Int) ≤ i := by omega
      have kat := HEL.out _ hbel i hlt
      have hpl := HAR.out.2.1 i hlt
      obtain ⟨p, hp⟩ : ∃ p, at_.getD i 0 = p := ⟨_, rfl⟩
      rw [hp] at kat hpl
      have hpi : (p : Int) < n := by omega
      have hp0 : (0 : Int) ≤ p := by omega
      obtain ⟨b, off, rfl, hb, hc⟩ := (HYW.out _ hbel).at_ (i := p) (by have := HYL.out; omega)
      have hq := HDV.out i hlt
      obtain ⟨q, hqe⟩ : ∃ q, i / d = q := ⟨_, rfl⟩
      rw [hqe] at hq
      have hqi : (q : Int) < m := by omega
      have hq0 : (0 : Int) ≤ q := by omega
      have t1 : (i : Int).tdiv (d : Int) = (q : Int) := by rw [← hqe]; rfl
      have t2 : IntKind.i64.wrap ((i : Int).tdiv (d : Int)) = (q : Int) := by rw [t1, IntKind.wrap_i64]; omega
      have kq := (HB.out.cell q).trans (cellsL_get (l := weightF at_ y d m i) (by rw [weightF_length]; exact hq))
      have fq := HB.out.frozen q
      by_cases hyp : y.getD p 0 = 1
      · have HS := Lib.hid (weightF_yes (at_ := at_) (B := d) (m := m) (i := i) (y := y) (by rw [hp]; exact hyp))
        have hbt : bt y p = 1 := by unfold bt; rw [hyp]; rfl
        rw [hbt] at hc
        rw [hqe] at HS
        obtain ⟨v, hv⟩ : ∃ v, (weightF at_ y d m i).getD q 0 = v := ⟨_, rfl⟩
        have hvl : v ≤ 64 := by rw [← hv]; exact Nat.le_trans (weightF_le at_ y d m (by omega) hq) hd2
        have hvi : (v : Int) ≤ 64 := by omega
        have hvi0 : (0 : Int) ≤ v := by omega
        rw [hv] at kq HS
        have A5 := HB.out.set_ q (.int .i64 ((v + 1 : Nat) : Int))
        rw [cellsL_put, ← HS.out] at A5
        have A6 := Lib.hid A5
        have D5 := Lib.hid (hbel.setCell (p := ⟨g2, q, none⟩) (Nat.le_refl _) (.int .i64 ((v + 1 : Nat) : Int)))
        clear hp A5 HB hv hqe hyp hbt
        go_wp2_with fail
        go_roundw
        case rel => exact ⟨i + 1, by omega, by go_num, A6.out, D5.out⟩
        case measure => simp [intOf]; omega
      · have HS := Lib.hid (weightF_no (at_ := at_) (B := d) (m := m) (i := i) (y := y) (by rw [hp]; exact hyp))
        have hbt : ¬ bt y p = 1 := by
          unfold bt
          intro h1
          exact hyp (UInt8.toNat_inj.1 h1)
        have hbi : ¬ ((bt y p : Int) = 1) := by omega
        generalize bt y p = z at hc hbt hbi
        clear hp hqe hyp
        go_wp2_with fail
        go_roundw
        case rel => exact ⟨i + 1, by omega, by go_num, by rw [HS.out]; exact HB.out, hbel⟩
        case measure => simp [intOf]; omega
    · obtain rfl : i = n := by omega
      have hx : ¬ ((i : Int) < i) := by omega
      go_wp2_with fail
      go_ret
      exact ⟨rfl, by rw [HWS.out _ rfl]; exact HB.out, hbel⟩
end Go.Proofs.YtchnaimpmegbkaaGreatDoor

/- The columns' order, laid out by the program. -/
namespace Go.Proofs.YtchnaimpmegbkaaGreatDoor
open Go.RowKit
set_option linter.unusedVariables false
set_option linter.unusedSimpArgs false

theorem infoL16 {l : List Value} (h : l.length = 16) : (Tryz.prog.info? 23).map (·.size) = some l.length := by rw [h]; kernel_rfl
theorem infoS {l : List Value} (h : l.length = 20) : (Tryz.prog.info? 29).map (·.size) = some l.length := by rw [h]; kernel_rfl
theorem StV.key {w : World} {g : Nat} {s : StV} (h : w.rangeAt g 0 s.cs) : w.rangeAt g 2 (cellsB s.k) := fun j v hv => by
  have := h (j + 2) v (by
    rw [StV.cs]
    simp only [List.getElem?_cons_succ]
    rw [List.getElem?_append_left (List.getElem?_eq_some_iff.1 hv).1]
    exact hv)
  rwa [Nat.zero_add, Nat.add_comm j 2] at this
theorem StV.range {w : World} {g : Nat} {t : TypeId} {s : StV} (h : Blk w g t s.cs.toArray) : w.rangeAt g 0 s.cs := h.range
theorem keybox_ (w w' : World) (a b : List UInt8) (h : w' = (w.alloc (.cells (cellsB a).toArray 23)).setRow w.heap.size (cellsB b).toArray) : Below w.heap.size w w' ∧ Blk w' w.heap.size 23 (cellsB b).toArray := by
  subst h
  exact ⟨below_setRow (alloc_bel _ _) (Nat.le_refl _) _, (Blk.new _ _ _).setRow _⟩

set_option maxHeartbeats 8000000 in
set_option maxRecDepth 1000000 in
theorem stepsOf_good (s : StV) (w : World) (h : StOK w s) (hok : s.ok = true) :
    Calls Tryz.prog 40 #[.agg s.cs.toArray] w fun e w' => (∃ g ga, e = .returned (.tuple #[.pointer (some ⟨g, 0, none⟩), .int .i64 0]) ∧ Laid w' s g ga) ∧ Below w.heap.size w w' := by
  obtain ⟨⟨q1, q2, q3, q4⟩, hl⟩ := StV.parts hok
  obtain ⟨hn1, hn2, hn3⟩ := StV.n_le hok
  have hks := h.k16
  have mixed : Tryz.prog.follows Departure.mixedOrders = true := by kernel_rfl
  have HCK : Hid (∀ W, Below w.heap.size w W → Calls Tryz.prog 74 #[.agg s.cs.toArray] W fun e w' => e = .returned (.int .i64 0) ∧ Below W.heap.size W w') := fun W hW => by
    have := CheckSteps_any s W (h.below hW)
    rwa [hok, show ckSt true = 0 from rfl] at this
  have HDE : Hid (∀ W, Calls Tryz.prog 26 #[.agg (cellsB s.k).toArray, .int .u8 70, .int .u64 0] W fun e w' => e = .returned (.agg (cellsB (derS s.k 70 0)).toArray) ∧ Below W.heap.size W w') := fun W => Derive_any s.k 70 0 W hks
  have HNU : Hid (∀ i : Nat, i < s.n → ∀ W, Calls Tryz.prog 75 #[.agg (cellsB (derS s.k 70 0)).toArray, .int .u64 (i : Int), .int .u64 ((i : Int) + 1)] W fun e w' => e = .returned (.int .u64 (s.num i : Int)) ∧ Below W.heap.size W w') := fun i hi W => by
    have := Number_any (derS s.k 70 0) (UInt64.ofNat i) (UInt64.ofNat (i + 1)) W rfl
    have x1 : (UInt64.ofNat i).toNat = i := by rw [UInt64.toNat_ofNat']; omega
    have x2 : (UInt64.ofNat (i + 1)).toNat = i + 1 := by rw [UInt64.toNat_ofNat']; omega
    rw [x1, x2] at this
    exact this
  have HNL : Hid (∀ i : Nat, i < s.n → s.num i ≤ i) := fun i hi => s.num_le (by omega)
  have HAT : Hid (s.at_ = arrD s.num (s.n - 1) (List.range s.n)) := rfl
  obtain ⟨W0, hW0⟩ : ∃ W : World, W = w.alloc (.cells s.cs.toArray 29) := ⟨_, rfl⟩
  have b0 : Hid (Below w.heap.size w W0) := by unfold Hid; rw [hW0]; exact alloc_below _ _
  have x0 : Hid (Blk W0 w.heap.size 29 s.cs.toArray) := by unfold Hid; rw [hW0]; exact Blk.new w _ _
  have HW0 := Lib.hid hW0
  have HIN := Lib.hid (StV.info (s := s) hks)
  have HR : Hid (∀ W, Below W0.heap.size W0 W → W.rangeAt w.heap.size 0 s.cs ∧ W.cell? ⟨w.heap.size, 0, none⟩ = some (.int .i64 s.u) ∧ W.cell? ⟨w.heap.size, 1, none⟩ = some (.int .i64 s.b)) := fun W hW => by
    have := x0.out.below' hW
    exact ⟨this.range, (this.cell 0).trans s.c0, (this.cell 1).trans s.c1⟩
  have HKY : Hid (∀ W, Below W0.heap.size W0 W → W.rangeAt w.heap.size 2 (cellsB s.k)) := fun W hW => StV.key (HR.out W hW).1
  have HBU := Lib.hid (StV.built (s := s) hks)
  have HSA := Lib.hid (StV.stc_all s)
  have H20 := Lib.hid (StV.stc20 (s := s) hks)
  have HL20 : Hid (s.cs.length = 20) := StV.len hks
  have HFIN : Hid (∀ W g ga, Blk W g 135 (s.stc ga).toArray → Blk W ga 3 (cellsL s.at_).toArray → Laid W s g ga) := fun W g ga a b => ⟨a, b⟩
  have HDK : Hid ((derS s.k 70 0).length = 16) := rfl
  have HKK : Hid (s.k.length = 16) := hks
  have HFP : Hid (∀ e w', (∃ g ga, e = .returned (.tuple #[.pointer (some ⟨g, 0, none⟩), .int .i64 0]) ∧ Blk w' g 135 (s.stc ga).toArray ∧ Blk w' ga 3 (cellsL s.at_).toArray) → ∃ g ga, e = Ending.returned (.tuple #[.pointer (some ⟨g, 0, none⟩), .int .i64 0]) ∧ Laid w' s g ga) := fun e w' ⟨g, ga, h1, h2, h3⟩ => ⟨g, ga, h1, h2, h3⟩
  clear HFIN
  refine (?_ : Calls Tryz.prog 40 #[.agg s.cs.toArray] w fun e w' => (∃ g ga, e = .returned (.tuple #[.pointer (some ⟨g, 0, none⟩), .int .i64 0]) ∧ Blk w' g 135 (s.stc ga).toArray ∧ Blk w' ga 3 (cellsL s.at_).toArray) ∧ Below w.heap.size w w').mono (fun e w' h => ⟨HFP.out e w' h.1, h.2⟩)
  clear HFP
  generalize derS s.k 70 0 = dk at HDE HNU HDK
  generalize s.k = sk at HDE HKY HKK
  generalize s.stc = stc at HBU HSA H20 ⊢
  generalize s.at_ = atl at HAT ⊢
  generalize s.num = num at HNU HNL HAT
  generalize s.n = n at *
  generalize s.cs = cs at *
  generalize s.u = u at *
  generalize s.b = b at *
  clear h hW0 hl hok hks
  obtain ⟨m, hm⟩ : ∃ m, n = m + 1 := ⟨n - 1, by omega⟩
  have em : IntKind.i64.wrap ((n : Int) - 1) = (m : Int) := by rw [IntKind.wrap_i64]; omega
  have em' : (n : Int) - 1 = (m : Int) := by omega
  have HM : Hid (n - 1 = m) := by unfold Hid; omega
  have HNM : Hid (n = m + 1) := hm
  have hni : (n : Int) ≤ 960 := by omega
  obtain ⟨v, hv⟩ : ∃ v, u - 1 = v := ⟨_, rfl⟩
  have ev : IntKind.i64.wrap (u - 1) = v := by rw [IntKind.wrap_i64]; omega
  rw [hv] at hn3
  have evb : IntKind.i64.wrap (v * b) = (n : Int) := by rw [← hn3, IntKind.wrap_i64]; omega
  have hmk : ∀ W : World, (Instr.makeSlice 55 (.int .i64 (n : Int)) (.int .i64 (n : Int))).run Tryz.prog W = .ok (.slice (some ⟨W.heap.size, 0, none⟩) n n) (W.alloc (.cells (cellsL (fillL n 0)).toArray 3)) := fun W => by
    have := run_make_row' (P := Tryz.prog) 55 3 (.int .i64 0) 8 Tryz.underlying55 (by kernel_rfl) rfl .i64 .i64 n (by omega) (by omega) W
    rwa [made_L] at this
  clear hm hn3
  go_enter Tryz.func40, Tryz.ntmps40
  go_wp2_with (first
    | (rw [← HW0.out])
    | (refine wpList_load_row rfl 29 (.tmp 1) rfl (w.heap.size) rfl 29 cs.toArray (0, 0) _ x0.out Tryz.underlying29 rfl HIN.out ?_)
    | (go_at_call 74; (with_reducible refine (HCK.out _ b0.out).mono ?_); rintro e w1 ⟨rfl, hb⟩; have D1 := Lib.hid hb; clear hb))
  refine wp_region_noPanic ?_
  have HS : Hid (∀ W, Below w1.drew.heap.size w1.drew W → W.rangeAt w.heap.size 0 cs ∧ W.cell? ⟨w.heap.size, 0, none⟩ = some (.int .i64 u) ∧ W.cell? ⟨w.heap.size, 1, none⟩ = some (.int .i64 b)) := fun W hW => HR.out W (bel_on D1.out.drew hW)
  obtain ⟨w2, hw2⟩ : ∃ W, W = w1.drew := ⟨_, rfl⟩
  rw [← hw2] at HS
  have D2 : Hid (Below W0.heap.size W0 w2) := by unfold Hid; rw [hw2]; exact D1.out.drew
  refine wp_region_held_drew (S := fun W => W.rangeAt w.heap.size 0 cs ∧ W.cell? ⟨w.heap.size, 0, none⟩ = some (.int .i64 u) ∧ W.cell? ⟨w.heap.size, 1, none⟩ = some (.int .i64 b)) (by kernel_rfl) (by rw [← hw2]; exact HS.out _ (Below.refl _ _)) (fun hS => ?_)
  rw [← hw2] at hS ⊢
  clear hw2
  obtain ⟨ga, hga⟩ : ∃ ga, w2.heap.size = ga := ⟨_, rfl⟩
  obtain ⟨w3, hw3⟩ : ∃ W, W = w2.alloc (.cells (cellsL (fillL n 0)).toArray 3) := ⟨_, rfl⟩
  obtain ⟨w4, hw4⟩ : ∃ W, W = w3.alloc (.cells (stc ga).toArray 135) := ⟨_, rfl⟩
  have hg3 : w3.heap.size = ga + 1 := by rw [hw3, ← hga]; simp
  have b3 : Below w2.heap.size w2 w3 := by rw [hw3]; exact alloc_bel _ _
  have b4 : Below w2.heap.size w2 w4 := by rw [hw4]; exact bel_on b3 (alloc_bel _ _)
  have hS3 := HS.out w3 b3
  have hS4 := HS.out w4 b4
  have hmk3 : (Instr.makeSlice 55 (.int .i64 (n : Int)) (.int .i64 (n : Int))).run Tryz.prog w2 = .ok (.slice (some ⟨ga, 0, none⟩) n n) w3 := by rw [hw3, ← hga]; exact hmk w2
  have B4 : Hid (Blk w4 (ga + 1) 135 (stc ga).toArray) := by unfold Hid; rw [hw4, ← hg3]; exact Blk.new _ _ _
  have A4 : Hid (Blk w4 ga 3 (cellsL (fillL n 0)).toArray) := by
    unfold Hid
    rw [hw4, hw3, ← hga]
    exact (Blk.new _ _ _).alloc _
  have hbx : (w3.alloc (.cells (stc ga).toArray 135)) = w4 := hw4.symm
  have D4 : Hid (Below W0.heap.size W0 w4) := bel_on D2.out b4
  clear hmk hw3 hw4 b3 b4
  refine hd_load 0 w.heap.size 0 cs 29 (.tmp 1) rfl rfl rfl (by kernel_rfl) (by kernel_rfl) (by kernel_rfl) (fun _ _ _ h => h) rfl (fun w hw => hw.1) Tryz.underlying29 rfl (infoS HL20.out) hS ?_
  refine hd_take 1 (.pointer (some ⟨w.heap.size, 0, none⟩)) rfl rfl (by kernel_rfl) (by kernel_rfl) (by kernel_rfl) (fun _ _ _ h => h) (fun w hw => by go_simp) hS ?_
  refine hd_take 4 (.pointer (some ⟨w.heap.size, 1, none⟩)) rfl rfl (by kernel_rfl) (by kernel_rfl) (by kernel_rfl) (fun _ _ _ h => h) (fun w hw => by go_simp) hS ?_
  simp only [List.getElem_toArray, List.getElem_cons_succ, List.getElem_cons_zero, Act.put, List.setIfInBounds_toArray, List.set_cons_zero, List.set_cons_succ]
  refine hd_take 2 (.int .i64 u) rfl rfl (by kernel_rfl) (by kernel_rfl) (by kernel_rfl) (fun _ _ _ h => h) (fun w hw => by have hx := hw.2.1; simp [go_sem, hx]) hS ?_
  refine hd_take 5 (.int .i64 b) rfl rfl (by kernel_rfl) (by kernel_rfl) (by kernel_rfl) (fun _ _ _ h => h) (fun w hw => by have hx := hw.2.2; simp [go_sem, hx]) hS ?_
  simp only [List.getElem_toArray, List.getElem_cons_succ, List.getElem_cons_zero, Act.put, List.setIfInBounds_toArray, List.set_cons_zero, List.set_cons_succ]
  refine hd_take 3 (.int .i64 v) rfl rfl (by kernel_rfl) (by kernel_rfl) (by kernel_rfl) (fun _ _ _ h => h) (fun w hw => by simp [go_sem, ev]) hS ?_
  simp only [List.getElem_toArray, List.getElem_cons_succ, List.getElem_cons_zero, Act.put, List.setIfInBounds_toArray, List.set_cons_zero, List.set_cons_succ]
  refine hd_take 6 (.int .i64 (n : Int)) rfl rfl (by kernel_rfl) (by kernel_rfl) (by kernel_rfl) (fun _ _ _ h => h) (fun w hw => by simp [go_sem, evb]) hS ?_
  simp only [List.getElem_toArray, List.getElem_cons_succ, List.getElem_cons_zero, Act.put, List.setIfInBounds_toArray, List.set_cons_zero, List.set_cons_succ]
  refine hd_sole 7 (by kernel_rfl) (op_run (.slice (some ⟨ga, 0, none⟩) n n) w3 rfl rfl (by simp [go_sem, execOp, hmk3]) ⟨hS3, ?_⟩)
  simp only [List.getElem_toArray, List.getElem_cons_succ, List.getElem_cons_zero, Act.put, List.setIfInBounds_toArray, List.set_cons_zero, List.set_cons_succ]
  refine hd_build2 8 135 (.agg cs.toArray) (.slice (some ⟨ga, 0, none⟩) n n) (stc ga).toArray _ _ rfl rfl rfl (by kernel_rfl) (by kernel_rfl) (by kernel_rfl) (fun _ _ _ h => h) rfl rfl (HBU.out ga) hS3 ?_
  simp only [List.getElem_toArray, List.getElem_cons_succ, List.getElem_cons_zero, Act.put, List.setIfInBounds_toArray, List.set_cons_zero, List.set_cons_succ]
  refine hd_sole 9 (by kernel_rfl) (op_run (.pointer (some ⟨ga + 1, 0, none⟩)) w4 rfl rfl (by simp [go_sem, execOp, hbx, hg3]) ⟨hS4, ?_⟩)
  simp only [List.getElem_toArray, List.getElem_cons_succ, List.getElem_cons_zero, Act.put, List.setIfInBounds_toArray, List.set_cons_zero, List.set_cons_succ]
  refine hd_take 10 (.pointer (some ⟨ga + 1, 0, none⟩)) rfl rfl (by kernel_rfl) (by kernel_rfl) (by kernel_rfl) (fun _ _ _ h => h) (fun w hw => by go_simp) hS4 ?_
  refine wpAnyH_done (by kernel_rfl) (NoPanic.normal ?_) _
  simp only [List.getElem_toArray, List.getElem_cons_succ, List.getElem_cons_zero, Act.put, List.setIfInBounds_toArray, List.set_cons_zero, List.set_cons_succ]
  obtain ⟨g, hg⟩ : ∃ g, g = ga + 1 := ⟨_, rfl⟩
  rw [← hg] at B4 ⊢
  have HNE : Hid (g ≠ ga ∧ W0.heap.size ≤ ga) := ⟨by omega, by rw [← hga]; exact D2.out.size⟩
  have HC20 := Lib.hid (H20.out ga)
  obtain ⟨sc, hsc⟩ : ∃ sc, (stc ga).toArray = sc := ⟨_, rfl⟩
  rw [hsc] at B4 HC20 hbx
  have HSC : Hid (∀ W, Blk W g 135 sc → Blk W g 135 (stc ga).toArray) := fun W h => by rw [hsc]; exact h
  clear hsc
  clear hS hS3 hS4 HS hmk3 hbx hg3 hga hg
  have c20 := (B4.out.cell 20).trans HC20.out
  go_wp2_with fail
  clear c20
  go_loopw [30] (fun vi wr => ∃ i : Nat, i ≤ n ∧ vi = .int .i64 (i : Int) ∧ Hid (Blk wr g 135 sc) ∧ Hid (Blk wr ga 3 (cellsL (fillL n i)).toArray) ∧ Below W0.heap.size W0 wr) (fun vi _ => n - (intOf vi).toNat)
  case atStart => exact ⟨0, by omega, rfl, B4.out, A4.out, D4.out⟩
  case round =>
    obtain ⟨i, hi, rfl, HB, HA, hbel⟩ := hrel
    have c20 := (HB.out.cell 20).trans HC20.out
    by_cases hlt : i < n
    · have hii : (i : Int) < n := by omega
      have hi0 : (0 : Int) ≤ i := by omega
      have ki := (HA.out.cell i).trans (cellsL_get (l := fillL n i) (by rw [fillL_length]; exact hlt))
      have fi := HA.out.frozen i
      have A5 := HA.out.set_ i (.int .i64 (i : Int))
      rw [cellsL_put, fillL_set hlt] at A5
      have B5 := HB.out.far (p := ⟨ga, i, none⟩) HNE.out.1 (.int .i64 (i : Int))
      have D5 := hbel.setCell (p := ⟨ga, i, none⟩) HNE.out.2 (.int .i64 (i : Int))
      go_wp2_with fail
      go_roundw
      case rel => exact ⟨i + 1, by omega, by go_num, B5, A5, D5⟩
      case measure => simp [intOf]; omega
    · obtain rfl : i = n := by omega
      have hx : ¬ ((i : Int) < i) := by omega
      rw [fillL_all] at HA
      obtain ⟨w5, hw5⟩ : ∃ W, W = wr := ⟨_, rfl⟩
      rw [← hw5] at HB HA hbel c20 ⊢
      clear hw5
      have HK5 := Lib.hid (HKY.out _ hbel)
      have HB5 := Lib.hid HB.out
      go_wp2_with (first
        | (refine wpList_load_mid rfl 23 (.tmp 41) rfl w.heap.size 2 rfl (cellsB sk) _ HK5.out under_key rfl (infoL16 (by rw [cellsB_length, HKK.out])) ?_)
        | (go_at_call 26; (with_reducible refine (HDE.out _).mono ?_); rintro e w6 ⟨rfl, hb⟩; have B6 := Lib.hid (HB.out.below' hb); have A6 := Lib.hid (HA.out.below' hb); have D6 := Lib.hid (bel_on hbel hb); clear hb c20)
        | ((first | rw [zero16] | skip); refine wpList_store_row rfl 23 (.tmp 7) (.tmp 43) rfl w6.heap.size (cellsB dk).toArray rfl rfl 23 (cellsB zeroK).toArray (Blk.new w6 _ _) (cellsB_size _ HDK.out) (cellsB_sizes _ _ zeroK_length HDK.out) (cellsB_all _) ?_; obtain ⟨w7, hV⟩ : ∃ W, W = (w6.alloc (.cells (cellsB zeroK).toArray 23)).setRow w6.heap.size (cellsB dk).toArray := ⟨_, rfl⟩; rw [← hV]; obtain ⟨hb, nb⟩ := keybox_ _ _ _ _ hV; have D7 := Lib.hid (bel_on D6.out hb); have B7 := Lib.hid (B6.out.below' hb); have A7 := Lib.hid (A6.out.below' hb); have K7 := Lib.hid nb; have Z7 : Hid (w6.heap.size ≠ ga ∧ W0.heap.size ≤ w6.heap.size) := ⟨by have := A6.out.lt; omega, D6.out.size⟩; have c27 := (B7.out.cell 20).trans HC20.out; clear hV hb nb))
      clear c27
      obtain ⟨gk, hgk⟩ : ∃ gk, w6.heap.size = gk := ⟨_, rfl⟩
      rw [hgk] at K7 Z7 ⊢
      go_loopw [8] (fun vi wr => ∃ (i0 : Nat) (l : List Nat), i0 < i ∧ vi = .int .i64 (i0 : Int) ∧ l.length = i ∧ Hid (arrD num i0 l = atl) ∧ Hid (Blk wr g 135 sc) ∧ Hid (Blk wr ga 3 (cellsL l).toArray) ∧ Hid (Blk wr gk 23 (cellsB dk).toArray) ∧ Below W0.heap.size W0 wr) (fun vi _ => (intOf vi).toNat)
      case atStart => exact ⟨m, List.range i, by have := HNM.out; omega, by first | rfl | (rw [em]) | (rw [em']), by simp, by unfold Hid; rw [HAT.out, HM.out], B7.out, A7.out, K7.out, D7.out⟩
      case round =>
        obtain ⟨p, l, hp, rfl, hlen, HAR, HB8, HA8, HK8, hbel8⟩ := hrel
        by_cases hp0 : 0 < p
        · obtain ⟨i0, hi0⟩ : ∃ i0, p = i0 + 1 := ⟨p - 1, by omega⟩
          have hpi : (0 : Int) < p := by omega
          have e1 : IntKind.i64.wrap ((p : Int) - 1) = (i0 : Int) := by rw [IntKind.wrap_i64]; omega
          have e1' : (p : Int) - 1 = (i0 : Int) := by omega
          have u1 : IntKind.u64.wrap (p : Int) = (p : Int) := by rw [IntKind.wrap_u64]; omega
          have u2 : IntKind.u64.wrap ((p : Int) + 1) = (p : Int) + 1 := by rw [IntKind.wrap_u64]; omega
          have HN1 := Lib.hid (HNU.out p hp)
          have HNP := HNL.out p hp
          have HJ : Hid (arrD num i0 (swapL l p (num p)) = atl) := by
            unfold Hid
            have := HAR.out
            rw [hi0, arrD, ← hi0] at this
            exact this
          obtain ⟨j, hj⟩ : ∃ j, num p = j := ⟨_, rfl⟩
          rw [hj] at HN1 HNP HJ
          clear hj hi0
          go_wp2_with (first
            | (refine wpList_load_row rfl 23 (.tmp 7) rfl gk rfl 23 (cellsB dk).toArray (0, 0) _ HK8.out under_key rfl (cellsB_size _ HDK.out) ?_)
            | (go_at_call 75; (with_reducible refine (HN1.out _).mono ?_); rintro e w9 ⟨rfl, hb⟩; have B9 := Lib.hid (HB8.out.below' hb); have A9 := Lib.hid (HA8.out.below' hb); have K9 := Lib.hid (HK8.out.below' hb); have D9 := Lib.hid (bel_on hbel8 hb); clear hb))
          refine wp_region_noPanic ?_
          have hji : (j : Int) < i := by omega
          have hj0 : (0 : Int) ≤ j := by omega
          have hpii : (p : Int) < i := by omega
          have hp00 : (0 : Int) ≤ p := by omega
          have hji2 : j < i := by omega
          have hpi2 : p < i := by omega
          have hS := (B9.out.drew.cell 20).trans HC20.out
          have ki := (A9.out.drew.cell p).trans (cellsL_get (l := l) (by omega))
          have kj := (A9.out.drew.cell j).trans (cellsL_get (l := l) (by omega))
          obtain ⟨wr, hwr⟩ : ∃ W, W = w9.drew := ⟨_, rfl⟩
          have A10 : Blk wr ga 3 (cellsL l).toArray := by rw [hwr]; exact A9.out.drew
          have B10 : Blk wr g 135 sc := by rw [hwr]; exact B9.out.drew
          have K10 : Blk wr gk 23 (cellsB dk).toArray := by rw [hwr]; exact K9.out.drew
          have D10 : Below W0.heap.size W0 wr := by rw [hwr]; exact D9.out.drew
          refine wp_region_held_drew (S := fun W => W.cell? ⟨g, 20, none⟩ = some (.slice (some ⟨ga, 0, none⟩) i i)) (by kernel_rfl) hS (fun hS => ?_)
          rw [← hwr] at hS ki kj ⊢
          clear hwr
          obtain ⟨x, hx⟩ : ∃ x, l.getD j 0 = x := ⟨_, rfl⟩
          obtain ⟨y, hy⟩ : ∃ y, l.getD p 0 = y := ⟨_, rfl⟩
          have HSW : Hid (swapL l p j = (l.set p x).set j y) := by unfold Hid swapL; rw [hx, hy]
          rw [hx] at kj
          rw [hy] at ki
          have fi := A10.frozen p
          have A11 := A10.set_ p (.int .i64 (x : Int))
          rw [cellsL_put] at A11
          have B11 := B10.far (p := ⟨ga, p, none⟩) HNE.out.1 (.int .i64 (x : Int))
          have K11 := K10.far (p := ⟨ga, p, none⟩) Z7.out.1 (.int .i64 (x : Int))
          have D11 := D10.setCell (p := ⟨ga, p, none⟩) HNE.out.2 (.int .i64 (x : Int))
          have hS2 := (B11.cell 20).trans HC20.out
          have kj2 := (A11.cell j).trans (cellsL_get (l := l.set p x) (by rw [List.length_set]; omega))
          have fj2 := A11.frozen j
          have A12 := A11.set_ j (.int .i64 (y : Int))
          rw [cellsL_put] at A12
          have B12 := Lib.hid (B11.far (p := ⟨ga, j, none⟩) HNE.out.1 (.int .i64 (y : Int)))
          have K12 := Lib.hid (K11.far (p := ⟨ga, j, none⟩) Z7.out.1 (.int .i64 (y : Int)))
          have D12 := Lib.hid (D11.setCell (p := ⟨ga, j, none⟩) HNE.out.2 (.int .i64 (y : Int)))
          have hS3 := (B12.out.cell 20).trans HC20.out
          rw [← HSW.out] at A12
          have A12 := Lib.hid A12
          obtain ⟨z, hz⟩ : ∃ z, (l.set p x).getD j 0 = z := ⟨_, rfl⟩
          rw [hz] at kj2
          have HSL : Hid ((swapL l p j).length = i) := by unfold Hid; rw [swapL_length, hlen]
          have hlp : p ≤ i := by omega
          have HI0 : Hid (i0 < i) := by unfold Hid; omega
          have HME : Hid (i0 < p) := by unfold Hid; omega
          clear hx hy hz hlen A10 B10 K10 D10 A11 B11 K11 D11 A9 B9 K9 D9 HB8 HA8 HK8 hbel8 HAR HSW
          generalize swapL l p j = l2 at A12 HSL HJ
          refine hd_take 0 (.pointer (some ⟨g, 0, none⟩)) rfl rfl (by kernel_rfl) (by kernel_rfl) (by kernel_rfl) (fun _ _ _ h => h) (fun w hw => by go_simp) hS ?_
          refine hd_take 5 (.pointer (some ⟨g, 0, none⟩)) rfl rfl (by kernel_rfl) (by kernel_rfl) (by kernel_rfl) (fun _ _ _ h => h) (fun w hw => by go_simp) hS ?_
          refine hd_take 10 (.pointer (some ⟨g, 0, none⟩)) rfl rfl (by kernel_rfl) (by kernel_rfl) (by kernel_rfl) (fun _ _ _ h => h) (fun w hw => by go_simp) hS ?_
          refine hd_take 17 (.pointer (some ⟨g, 0, none⟩)) rfl rfl (by kernel_rfl) (by kernel_rfl) (by kernel_rfl) (fun _ _ _ h => h) (fun w hw => by go_simp) hS ?_
          refine hd_take 4 (.int .i64 (p : Int)) rfl rfl (by kernel_rfl) (by kernel_rfl) (by kernel_rfl) (fun _ _ _ h => h) (fun w hw => by go_simp) hS ?_
          refine hd_take 21 (.int .i64 (p : Int)) rfl rfl (by kernel_rfl) (by kernel_rfl) (by kernel_rfl) (fun _ _ _ h => h) (fun w hw => by go_simp) hS ?_
          refine hd_take 9 (.int .u64 (j : Int)) rfl rfl (by kernel_rfl) (by kernel_rfl) (by kernel_rfl) (fun _ _ _ h => h) (fun w hw => by go_simp) hS ?_
          refine hd_take 14 (.int .u64 (j : Int)) rfl rfl (by kernel_rfl) (by kernel_rfl) (by kernel_rfl) (fun _ _ _ h => h) (fun w hw => by go_simp) hS ?_
          simp only [List.getElem_toArray, List.getElem_cons_succ, List.getElem_cons_zero, Act.put, List.setIfInBounds_toArray, List.set_cons_zero, List.set_cons_succ]
          refine hd_take 1 (.pointer (some ⟨g, 0, none⟩)) rfl rfl (by kernel_rfl) (by kernel_rfl) (by kernel_rfl) (fun _ _ _ h => h) (fun w hw => by go_simp) hS ?_
          refine hd_take 6 (.pointer (some ⟨g, 0, none⟩)) rfl rfl (by kernel_rfl) (by kernel_rfl) (by kernel_rfl) (fun _ _ _ h => h) (fun w hw => by go_simp) hS ?_
          refine hd_take 11 (.pointer (some ⟨g, 0, none⟩)) rfl rfl (by kernel_rfl) (by kernel_rfl) (by kernel_rfl) (fun _ _ _ h => h) (fun w hw => by go_simp) hS ?_
          refine hd_take 18 (.pointer (some ⟨g, 0, none⟩)) rfl rfl (by kernel_rfl) (by kernel_rfl) (by kernel_rfl) (fun _ _ _ h => h) (fun w hw => by go_simp) hS ?_
          simp only [List.getElem_toArray, List.getElem_cons_succ, List.getElem_cons_zero, Act.put, List.setIfInBounds_toArray, List.set_cons_zero, List.set_cons_succ]
          refine hd_take 2 (.pointer (some ⟨g, 20, none⟩)) rfl rfl (by kernel_rfl) (by kernel_rfl) (by kernel_rfl) (fun _ _ _ h => h) (fun w hw => by go_simp) hS ?_
          refine hd_take 7 (.pointer (some ⟨g, 20, none⟩)) rfl rfl (by kernel_rfl) (by kernel_rfl) (by kernel_rfl) (fun _ _ _ h => h) (fun w hw => by go_simp) hS ?_
          refine hd_take 12 (.pointer (some ⟨g, 20, none⟩)) rfl rfl (by kernel_rfl) (by kernel_rfl) (by kernel_rfl) (fun _ _ _ h => h) (fun w hw => by go_simp) hS ?_
          refine hd_take 19 (.pointer (some ⟨g, 20, none⟩)) rfl rfl (by kernel_rfl) (by kernel_rfl) (by kernel_rfl) (fun _ _ _ h => h) (fun w hw => by go_simp) hS ?_
          simp only [List.getElem_toArray, List.getElem_cons_succ, List.getElem_cons_zero, Act.put, List.setIfInBounds_toArray, List.set_cons_zero, List.set_cons_succ]
          refine hd_take 3 (.slice (some ⟨ga, 0, none⟩) i i) rfl rfl (by kernel_rfl) (by kernel_rfl) (by kernel_rfl) (fun _ _ _ h => h) (fun w hw => by have hx := hw; simp [go_sem, hx]) hS ?_
          refine hd_take 8 (.slice (some ⟨ga, 0, none⟩) i i) rfl rfl (by kernel_rfl) (by kernel_rfl) (by kernel_rfl) (fun _ _ _ h => h) (fun w hw => by have hx := hw; simp [go_sem, hx]) hS ?_
          refine hd_take 13 (.slice (some ⟨ga, 0, none⟩) i i) rfl rfl (by kernel_rfl) (by kernel_rfl) (by kernel_rfl) (fun _ _ _ h => h) (fun w hw => by have hx := hw; simp [go_sem, hx]) hS ?_
          refine hd_take 20 (.slice (some ⟨ga, 0, none⟩) i i) rfl rfl (by kernel_rfl) (by kernel_rfl) (by kernel_rfl) (fun _ _ _ h => h) (fun w hw => by have hx := hw; simp [go_sem, hx]) hS ?_
          simp only [List.getElem_toArray, List.getElem_cons_succ, List.getElem_cons_zero, Act.put, List.setIfInBounds_toArray, List.set_cons_zero, List.set_cons_succ]
          refine hd_take 15 (.pointer (some ⟨ga, j, none⟩)) rfl rfl (by kernel_rfl) (by kernel_rfl) (by kernel_rfl) (fun _ _ _ h => h) (fun w hw => by go_simp) hS ?_
          refine hd_take 22 (.pointer (some ⟨ga, p, none⟩)) rfl rfl (by kernel_rfl) (by kernel_rfl) (by kernel_rfl) (fun _ _ _ h => h) (fun w hw => by go_simp) hS ?_
          simp only [List.getElem_toArray, List.getElem_cons_succ, List.getElem_cons_zero, Act.put, List.setIfInBounds_toArray, List.set_cons_zero, List.set_cons_succ]
          refine hd_two 16 23 (by kernel_rfl) (op_run (.int .i64 (x : Int)) wr rfl rfl (by simp [go_sem, kj]) ⟨hS, ?_⟩) (op_run (.int .i64 (y : Int)) wr rfl rfl (by simp [go_sem, ki]) ⟨hS, ?_⟩)
          · simp only [List.getElem_toArray, List.getElem_cons_succ, List.getElem_cons_zero, Act.put, List.setIfInBounds_toArray, List.set_cons_zero, List.set_cons_succ]
            refine hd_sole 23 (by kernel_rfl) (op_run (.int .i64 (y : Int)) wr rfl rfl (by simp [go_sem, ki]) ⟨hS, ?_⟩)
            simp only [List.getElem_toArray, List.getElem_cons_succ, List.getElem_cons_zero, Act.put, List.setIfInBounds_toArray, List.set_cons_zero, List.set_cons_succ]
            refine hd_take 24 (.pointer (some ⟨ga, p, none⟩)) rfl rfl (by kernel_rfl) (by kernel_rfl) (by kernel_rfl) (fun _ _ _ h => h) (fun w hw => by go_simp) hS ?_
            simp only [List.getElem_toArray, List.getElem_cons_succ, List.getElem_cons_zero, Act.put, List.setIfInBounds_toArray, List.set_cons_zero, List.set_cons_succ]
            refine hd_sole 25 (by kernel_rfl) (op_skip (wr.setCell ⟨ga, p, none⟩ (.int .i64 (x : Int))) rfl rfl (by simp [go_sem, ki, fi]) ⟨hS2, ?_⟩)
            simp only [List.getElem_toArray, List.getElem_cons_succ, List.getElem_cons_zero, Act.put, List.setIfInBounds_toArray, List.set_cons_zero, List.set_cons_succ]
            refine hd_take 26 (.pointer (some ⟨ga, j, none⟩)) rfl rfl (by kernel_rfl) (by kernel_rfl) (by kernel_rfl) (fun _ _ _ h => h) (fun w hw => by go_simp) hS2 ?_
            simp only [List.getElem_toArray, List.getElem_cons_succ, List.getElem_cons_zero, Act.put, List.setIfInBounds_toArray, List.set_cons_zero, List.set_cons_succ]
            refine hd_sole 27 (by kernel_rfl) (op_skip ((wr.setCell ⟨ga, p, none⟩ (.int .i64 (x : Int))).setCell ⟨ga, j, none⟩ (.int .i64 (y : Int))) rfl rfl (by simp [go_sem, kj2, fj2]) ⟨hS3, ?_⟩)
            refine wpAnyH_done (by kernel_rfl) (NoPanic.normal ?_) _
            simp only [List.getElem_toArray, List.getElem_cons_succ, List.getElem_cons_zero, Act.put, List.setIfInBounds_toArray, List.set_cons_zero, List.set_cons_succ]
            go_wp2_with fail
            go_roundw
            case rel => exact ⟨i0, l2, HI0.out, by first | rfl | (rw [e1]) | go_num, HSL.out, HJ.out, B12.out, A12.out, K12.out, D12.out⟩
            case measure => have := HME.out; simp [intOf, e1]; omega
          · simp only [List.getElem_toArray, List.getElem_cons_succ, List.getElem_cons_zero, Act.put, List.setIfInBounds_toArray, List.set_cons_zero, List.set_cons_succ]
            refine hd_sole 16 (by kernel_rfl) (op_run (.int .i64 (x : Int)) wr rfl rfl (by simp [go_sem, kj]) ⟨hS, ?_⟩)
            simp only [List.getElem_toArray, List.getElem_cons_succ, List.getElem_cons_zero, Act.put, List.setIfInBounds_toArray, List.set_cons_zero, List.set_cons_succ]
            refine hd_take 24 (.pointer (some ⟨ga, p, none⟩)) rfl rfl (by kernel_rfl) (by kernel_rfl) (by kernel_rfl) (fun _ _ _ h => h) (fun w hw => by go_simp) hS ?_
            simp only [List.getElem_toArray, List.getElem_cons_succ, List.getElem_cons_zero, Act.put, List.setIfInBounds_toArray, List.set_cons_zero, List.set_cons_succ]
            refine hd_sole 25 (by kernel_rfl) (op_skip (wr.setCell ⟨ga, p, none⟩ (.int .i64 (x : Int))) rfl rfl (by simp [go_sem, ki, fi]) ⟨hS2, ?_⟩)
            simp only [List.getElem_toArray, List.getElem_cons_succ, List.getElem_cons_zero, Act.put, List.setIfInBounds_toArray, List.set_cons_zero, List.set_cons_succ]
            refine hd_take 26 (.pointer (some ⟨ga, j, none⟩)) rfl rfl (by kernel_rfl) (by kernel_rfl) (by kernel_rfl) (fun _ _ _ h => h) (fun w hw => by go_simp) hS2 ?_
            simp only [List.getElem_toArray, List.getElem_cons_succ, List.getElem_cons_zero, Act.put, List.setIfInBounds_toArray, List.set_cons_zero, List.set_cons_succ]
            refine hd_sole 27 (by kernel_rfl) (op_skip ((wr.setCell ⟨ga, p, none⟩ (.int .i64 (x : Int))).setCell ⟨ga, j, none⟩ (.int .i64 (y : Int))) rfl rfl (by simp [go_sem, kj2, fj2]) ⟨hS3, ?_⟩)
            refine wpAnyH_done (by kernel_rfl) (NoPanic.normal ?_) _
            simp only [List.getElem_toArray, List.getElem_cons_succ, List.getElem_cons_zero, Act.put, List.setIfInBounds_toArray, List.set_cons_zero, List.set_cons_succ]
            go_wp2_with fail
            go_roundw
            case rel => exact ⟨i0, l2, HI0.out, by first | rfl | (rw [e1]) | go_num, HSL.out, HJ.out, B12.out, A12.out, K12.out, D12.out⟩
            case measure => have := HME.out; simp [intOf, e1]; omega
        · obtain rfl : p = 0 := by omega
          have hx0 : ¬ ((0 : Int) > 0) := by omega
          go_wp2_with fail
          go_ret2
          have hA : Blk wr ga 3 (cellsL atl).toArray := by
            have := HAR.out
            rw [arrD] at this
            rw [← this]; exact HA8.out
          exact ⟨⟨g, rfl, ga, HSC.out _ HB8.out, hA⟩, bel_on b0.out hbel8⟩
set_option maxHeartbeats 4000000 in
set_option maxRecDepth 1000000 in
theorem stepsOf_bad (s : StV) (w : World) (h : StOK w s) (hok : s.ok = false) :
    Calls Tryz.prog 40 #[.agg s.cs.toArray] w fun e w' => e = .returned (.tuple #[.pointer none, .int .i64 70]) ∧ Below w.heap.size w w' := by
  have hks := h.k16
  have HCK : Hid (∀ W, Below w.heap.size w W → Calls Tryz.prog 74 #[.agg s.cs.toArray] W fun e w' => e = .returned (.int .i64 70) ∧ Below W.heap.size W w') := fun W hW => by
    have := CheckSteps_any s W (h.below hW)
    rwa [hok, show ckSt false = 70 from rfl] at this
  obtain ⟨W0, hW0⟩ : ∃ W : World, W = w.alloc (.cells s.cs.toArray 29) := ⟨_, rfl⟩
  have b0 : Hid (Below w.heap.size w W0) := by unfold Hid; rw [hW0]; exact alloc_below _ _
  have x0 : Hid (Blk W0 w.heap.size 29 s.cs.toArray) := by unfold Hid; rw [hW0]; exact Blk.new w _ _
  have HW0 := Lib.hid hW0
  have HIN := Lib.hid (StV.info (s := s) hks)
  generalize s.cs = cs at *
  clear h hW0 hok hks
  go_enter Tryz.func40, Tryz.ntmps40
  go_wp2_with (first
    | (rw [← HW0.out])
    | (refine wpList_load_row rfl 29 (.tmp 1) rfl (w.heap.size) rfl 29 cs.toArray (0, 0) _ x0.out Tryz.underlying29 rfl HIN.out ?_)
    | (go_at_call 74; (with_reducible refine (HCK.out _ b0.out).mono ?_); rintro e w1 ⟨rfl, hb⟩; have D1 := Lib.hid (bel_on b0.out hb); clear hb))
  go_ret2
  exact ⟨rfl, D1.out⟩
end Go.Proofs.YtchnaimpmegbkaaGreatDoor

/- The names of a code of steps laid out: the program's. -/
namespace Go.Proofs.YtchnaimpmegbkaaGreatDoor
open Go.RowKit
set_option linter.unusedVariables false
set_option linter.unusedSimpArgs false

theorem src_int (w : World) (v : Int) : Src (w.alloc (.cells #[.int .i64 v] 3)) 1 (some ⟨w.heap.size, 0, none⟩) 1 [.int .i64 v] := by
  refine ⟨rfl, .inr ⟨_, rfl, fun j u hu => ?_⟩⟩
  rw [Addr.add_lit, Nat.zero_add, (Blk.new w 3 #[.int .i64 v]).cell j]
  simpa using hu
def StV.nmsW (s : StV) (w : List Nat) : List Int := namesS s.u.toNat s.b.toNat (val s.x) (val s.y) w
def StV.nms (s : StV) (y : List UInt8) : List Int := s.nmsW (s.wts y)
theorem StV.wts_len (s : StV) (y : List UInt8) : (s.wts y).length = s.u.toNat - 1 := weightF_length _ _ _ _ _
theorem StV.wts_le {s : StV} (hok : s.ok = true) (y : List UInt8) : ∀ i, i < s.u.toNat - 1 → (s.wts y).getD i 0 ≤ s.b.toNat := fun i hi => by
  obtain ⟨⟨q1, q2, q3, q4⟩, _⟩ := StV.parts hok
  exact weightF_le _ _ _ _ (by omega) hi

set_option maxHeartbeats 8000000 in
set_option maxRecDepth 1000000 in
theorem names_any (s : StV) (g ga : Nat) (Y : Option Addr) (c : Nat) (y : List UInt8) (w : World) (hS_ : StOK w s) (hok : s.ok = true) (h : Laid w s g ga) {n0 : Nat} (hy : y.length = n0) (hn0 : n0 = s.n) (hY : BR w Y c y) :
    Calls Tryz.prog 49 #[.pointer (some ⟨g, 0, none⟩), .slice Y n0 c] w fun e w' => (∃ A c', e = .returned (.slice A (s.nms y).length c') ∧ OI w.heap.size w' A c' (s.nms y)) ∧ Below w.heap.size w w' := by
  have hk := hS_.k16
  obtain ⟨d, m, hd, hu, hd1, hd2, hm1, hm2, hn⟩ := StV.nats hok
  have hum : s.u.toNat - 1 = m := by rw [hu, Int.toNat_natCast, Nat.add_sub_cancel]
  have HWL : Hid ((s.wts y).length = m) := by unfold Hid; rw [s.wts_len, hum]
  have HWB : Hid (∀ i, i < m → (s.wts y).getD i 0 ≤ d) := fun i hi => by
    have := StV.wts_le hok y i (by omega)
    rwa [hd, Int.toNat_natCast] at this
  have HWT : Hid (Calls Tryz.prog 78 #[.pointer (some ⟨g, 0, none⟩), .slice Y n0 c] w fun e w' => e = .returned (.slice (some ⟨w.heap.size, 0, none⟩) m m) ∧ Blk w' w.heap.size 3 (cellsL (s.wts y)).toArray ∧ Below w.heap.size w w') := by
    have := weights_any s g ga Y c y w hk hok h hy hn0 hY
    rwa [hum] at this
  have HTH : Hid (∀ k : Nat, (k : Int) ≤ 2 * (d : Int) → ∀ W, Below w.heap.size w W → Calls Tryz.prog 79 #[.agg s.cs.toArray, .int .i64 (k : Int)] W fun e w' => e = .returned (.int .i64 (s.th k)) ∧ Below W.heap.size W w') := fun k hk W hW => threshold_any s k W (hS_.below hW) hok (by omega)
  have HCL : Hid (∀ W, Below w.heap.size w W → W.cell? ⟨g, 0, none⟩ = some (.int .i64 ((m : Int) + 1)) ∧ W.cell? ⟨g, 1, none⟩ = some (.int .i64 (d : Int)) ∧ W.rangeAt g 0 s.cs) := fun W hW => by
    have hL := h.below hW
    obtain ⟨c0, c1, c20⟩ := hL.cells hk
    rw [hd] at c1
    rw [hu] at c0
    exact ⟨c0, c1, hL.range⟩
  have HP : Hid (s.nms y = namesF (namedB (m + 1) d (val s.x) (val s.y) (s.wts y)) (m + 1)) := by
    unfold Hid StV.nms StV.nmsW namesS
    rw [hd, hu, Int.toNat_natCast, Int.toNat_natCast]
  have HT2 : Hid (∀ k, s.th k = thS d k (val s.x) (val s.y)) := fun k => by unfold StV.th; rw [hd, Int.toNat_natCast]
  have HL20 : Hid (s.cs.length = 20) := StV.len hk
  generalize s.nms y = nm at HP ⊢
  generalize val s.x = vx at HP HT2
  generalize val s.y = vy at HP HT2
  generalize s.wts y = wl at HWL HWB HWT HP
  generalize s.cs = cs at HTH HCL HL20
  generalize s.th = th at HTH HT2
  obtain ⟨P, hP⟩ : ∃ P, namedB (m + 1) d vx vy wl = P := ⟨_, rfl⟩
  rw [hP] at HP
  have HP0 : Hid (P 0 = decide (0 < wl.getD 0 0)) := by unfold Hid; rw [← hP, namedB, if_pos rfl]
  have HPL : Hid (∀ i j : Nat, i = j + 1 → i = m → P i = decide (wl.getD j 0 < d)) := fun i j hi hm => by rw [← hP, namedB, if_neg (by omega), if_pos (by omega), hi, Nat.add_sub_cancel]
  have HPM : Hid (∀ i j : Nat, i = j + 1 → i < m → P i = decide ((wl.getD j 0 : Int) ≤ th (wl.getD j 0 + wl.getD i 0))) := fun i j hi hm => by
    rw [← hP, namedB, if_neg (by omega), if_neg (by omega), HT2.out, hi, Nat.add_sub_cancel]
  have hmi : (m : Int) ≤ 15 := by omega
  have hdi2 : (d : Int) ≤ 64 := by omega
  have mixed : Tryz.prog.follows Departure.mixedOrders = true := by kernel_rfl
  clear hP hS_ hok h hn0 hy hY hk hd hu hn hum
  go_enter Tryz.func49, Tryz.ntmps49
  go_wp2_with (go_at_call 78; (with_reducible refine HWT.out.mono ?_); rintro e w1 ⟨rfl, hB, hb⟩; have D1 := Lib.hid hb; have B1 := Lib.hid hB; have HW1 : Hid (w.heap.size < w1.heap.size) := hB.lt; obtain ⟨c0, c1, -⟩ := HCL.out _ hb; clear hB hb)
  clear c0 c1
  obtain ⟨wb, hwb⟩ : ∃ wb, w.heap.size = wb := ⟨_, rfl⟩
  rw [hwb] at HTH HCL D1 B1 ⊢
  have HWW : Hid (w.heap.size = wb) := hwb
  have HSS : Hid (∀ W, Below wb w W → Blk W wb 3 (cellsL wl).toArray → ∀ i, i < m → W.cell? ⟨wb, i, none⟩ = some (.int .i64 ((wl.getD i 0 : Nat) : Int))) := fun W _ hB i hi => (hB.cell i).trans (cellsL_get (by rw [HWL.out]; exact hi))
  clear hwb
  have hw1 : wb < w1.heap.size := by have := HW1.out; have := HWW.out; omega
  have HD1 : Hid (∀ W, Below w1.heap.size w1 W → Below wb w W) := fun W hW => D1.out.trans (hW.mono (Nat.le_of_lt hw1))
  have HSX : Hid (∀ W, Below w1.heap.size w1 W → (∀ i, i < m → W.cell? ⟨wb, i, none⟩ = some (.int .i64 ((wl.getD i 0 : Nat) : Int))) ∧ W.cell? ⟨g, 0, none⟩ = some (.int .i64 ((m : Int) + 1)) ∧ W.cell? ⟨g, 1, none⟩ = some (.int .i64 (d : Int)) ∧ W.rangeAt g 0 cs) := fun W hW => by
    obtain ⟨c0, c1, hr⟩ := HCL.out W (HD1.out _ hW)
    exact ⟨HSS.out W (HD1.out _ hW) (B1.out.below' hW), c0, c1, hr⟩
  clear HSS HCL
  go_loopw [6, 17] (fun vs vi wr => ∃ (i l c' : Nat) (A : Option Addr), i ≤ m + 1 ∧ vi = .int .i64 (i : Int) ∧ vs = .slice A l c' ∧ Hid ((namesF P i).length = l) ∧ Hid (OI w1.heap.size wr A c' (namesF P i)) ∧ Below w1.heap.size w1 wr) (fun _ vi _ => m + 1 - (intOf vi).toNat)
  case atStart => exact ⟨0, 0, 0, none, by omega, rfl, rfl, rfl, OI.nil _ _, Below.refl _ _⟩
  case round =>
    obtain ⟨i, l, c', A, hi, rfl, rfl, HL, HO, hbel1⟩ := hrel
    obtain ⟨hcw, c0, c1, hrg⟩ := HSX.out _ hbel1
    by_cases hlt : i < m + 1
    · have hii : (i : Int) < (m : Int) + 1 := by omega
      have hi0 : (0 : Int) ≤ i := by omega
      have hll : l ≤ 16 := by have := namesF_length P i; rw [HL.out] at this; omega
      have em1 : IntKind.i64.wrap ((m : Int) + 1 - 1) = (m : Int) := by rw [IntKind.wrap_i64]; omega
      by_cases hz : i = 0
      · subst hz
        obtain ⟨v0, hv0⟩ : ∃ v, wl.getD 0 0 = v := ⟨_, rfl⟩
        have k0 := hcw 0 (by omega)
        rw [hv0] at k0
        have HP1 := HP0.out
        rw [hv0] at HP1
        have hm0 : (0 : Int) < m := by omega
        cases hb_ : P 0 with
        | true =>
          rw [hb_] at HP1
          have hv1 : (0 : Int) < v0 := by have := of_decide_eq_true HP1.symm; omega
          have HN := Lib.hid (namesF_yes hb_)
          clear HP1 hv0 hcw
          go_wp2_with (at_builtin; refine wpList_append_int _ rfl (.tmp 68) (.tmp 70) rfl w1.heap.size A l c' (namesF P 0) HL.out rfl (HO.out.below (alloc_bel wr _)) _ (some ⟨wr.heap.size, 0, none⟩) 1 rfl (src_int wr _) (by omega) (by have := (hbel1).size; simp; omega) ?_; intro A7 c7 w7 ho7 hb7 hg7; have O7 := Lib.hid ho7; have D7 := Lib.hid (((hbel1).trans ((alloc_bel wr _).mono (hbel1).size)).trans hb7); clear ho7 hb7 hg7)
          go_roundw
          case rel => exact ⟨0 + 1, l + 1, c7, A7, by omega, by go_num, rfl, by unfold Hid; rw [HN.out, List.length_append, HL.out]; rfl, by unfold Hid; rw [HN.out]; exact O7.out, D7.out⟩
          case measure => simp [intOf] <;> omega
        | false =>
          rw [hb_] at HP1
          have hv1 : ¬ (0 : Int) < v0 := by have := of_decide_eq_false HP1.symm; omega
          have HN := Lib.hid (namesF_no hb_)
          clear HP1 hv0 hcw
          go_wp2_with fail
          go_roundw
          case rel => exact ⟨0 + 1, l, c', A, by omega, by go_num, rfl, by unfold Hid; rw [HN.out]; exact HL.out, by unfold Hid; rw [HN.out]; exact HO.out, hbel1⟩
          case measure => simp [intOf] <;> omega
      · obtain ⟨j, hj⟩ : ∃ j, i = j + 1 := ⟨i - 1, by omega⟩
        have ej : IntKind.i64.wrap ((i : Int) - 1) = (j : Int) := by rw [IntKind.wrap_i64]; omega
        have ej' : (i : Int) - 1 = (j : Int) := by omega
        have hnz : ¬ ((i : Int) = 0) := by omega
        have hj0 : (0 : Int) ≤ j := by omega
        obtain ⟨v, hv⟩ : ∃ v, wl.getD j 0 = v := ⟨_, rfl⟩
        have hjm : (j : Int) < m := by omega
        obtain ⟨V, hV⟩ : ∃ V, V = wr.drew := ⟨_, rfl⟩
        have hbelV : Below w1.heap.size w1 V := by rw [hV]; exact hbel1.drew
        have OV : Hid (OI w1.heap.size V A c' (namesF P i)) := by unfold Hid; rw [hV]; exact HO.out
        by_cases hm_ : i = m
        · have HP1 := HPL.out i j hj hm_
          rw [hv] at HP1
          have HSV : Hid (∀ W, Below w1.heap.size w1 W → W.cell? ⟨wb, j, none⟩ = some (.int .i64 (v : Int)) ∧ W.cell? ⟨g, 1, none⟩ = some (.int .i64 (d : Int)) ∧ True) := fun W hW => by
            obtain ⟨a, b, c, e⟩ := HSX.out W hW
            have := a j (by omega)
            rw [hv] at this
            exact ⟨this, c, trivial⟩
          clear hj
          subst i
          cases hb_ : P m with
          | true =>
            rw [hb_] at HP1
            have hv1 : (v : Int) < d := by have := of_decide_eq_true HP1.symm; omega
            have HN := Lib.hid (namesF_yes hb_)
            clear HP1 hv hcw hb_ hz hrg
            go_wp2_with fail
            refine wp_region_noPanic ?_
            refine wp_region_held_drew (S := fun W => W.cell? ⟨wb, j, none⟩ = some (.int .i64 (v : Int)) ∧ W.cell? ⟨g, 1, none⟩ = some (.int .i64 (d : Int)) ∧ True) (by kernel_rfl) (by rw [← hV]; exact HSV.out _ hbelV) (fun hS => ?_)
            rw [← hV] at hS ⊢
            clear hV
            refine hd_take 0 (.slice (some ⟨wb, 0, none⟩) m m) rfl rfl (by kernel_rfl) (by kernel_rfl) (by kernel_rfl) (fun _ _ _ h => h) (fun w hw => by go_simp) hS ?_
            refine hd_take 1 (.int .i64 (m : Int)) rfl rfl (by kernel_rfl) (by kernel_rfl) (by kernel_rfl) (fun _ _ _ h => h) (fun w hw => by go_simp) hS ?_
            refine hd_take 5 (.pointer (some ⟨g, 0, none⟩)) rfl rfl (by kernel_rfl) (by kernel_rfl) (by kernel_rfl) (fun _ _ _ h => h) (fun w hw => by go_simp) hS ?_
            simp only [List.getElem_toArray, List.getElem_cons_succ, List.getElem_cons_zero, Act.put, List.setIfInBounds_toArray, List.set_cons_zero, List.set_cons_succ]
            refine hd_take 2 (.int .i64 (j : Int)) rfl rfl (by kernel_rfl) (by kernel_rfl) (by kernel_rfl) (fun _ _ _ h => h) (fun w hw => by simp [go_sem, ej]) hS ?_
            refine hd_take 6 (.pointer (some ⟨g, 0, none⟩)) rfl rfl (by kernel_rfl) (by kernel_rfl) (by kernel_rfl) (fun _ _ _ h => h) (fun w hw => by go_simp) hS ?_
            simp only [List.getElem_toArray, List.getElem_cons_succ, List.getElem_cons_zero, Act.put, List.setIfInBounds_toArray, List.set_cons_zero, List.set_cons_succ]
            refine hd_take 3 (.pointer (some ⟨wb, j, none⟩)) rfl rfl (by kernel_rfl) (by kernel_rfl) (by kernel_rfl) (fun _ _ _ h => h) (fun w hw => by go_simp) hS ?_
            refine hd_take 7 (.pointer (some ⟨g, 0, none⟩)) rfl rfl (by kernel_rfl) (by kernel_rfl) (by kernel_rfl) (fun _ _ _ h => h) (fun w hw => by go_simp) hS ?_
            simp only [List.getElem_toArray, List.getElem_cons_succ, List.getElem_cons_zero, Act.put, List.setIfInBounds_toArray, List.set_cons_zero, List.set_cons_succ]
            refine hd_take 4 (.int .i64 (v : Int)) rfl rfl (by kernel_rfl) (by kernel_rfl) (by kernel_rfl) (fun _ _ _ h => h) (fun w hw => by have hx := hw.1; simp [go_sem, hx]) hS ?_
            refine hd_take 8 (.pointer (some ⟨g, 1, none⟩)) rfl rfl (by kernel_rfl) (by kernel_rfl) (by kernel_rfl) (fun _ _ _ h => h) (fun w hw => by go_simp) hS ?_
            simp only [List.getElem_toArray, List.getElem_cons_succ, List.getElem_cons_zero, Act.put, List.setIfInBounds_toArray, List.set_cons_zero, List.set_cons_succ]
            refine hd_take 9 (.int .i64 (d : Int)) rfl rfl (by kernel_rfl) (by kernel_rfl) (by kernel_rfl) (fun _ _ _ h => h) (fun w hw => by have hx := hw.2.1; simp [go_sem, hx]) hS ?_
            simp only [List.getElem_toArray, List.getElem_cons_succ, List.getElem_cons_zero, Act.put, List.setIfInBounds_toArray, List.set_cons_zero, List.set_cons_succ]
            refine hd_take 10 (.bool true) rfl rfl (by kernel_rfl) (by kernel_rfl) (by kernel_rfl) (fun _ _ _ h => h) (fun w hw => by first | (simp [go_sem, hv1]; done) | (simp [go_sem]; omega)) hS ?_
            simp only [List.getElem_toArray, List.getElem_cons_succ, List.getElem_cons_zero, Act.put, List.setIfInBounds_toArray, List.set_cons_zero, List.set_cons_succ]
            refine hd_take 11 (.bool true) rfl rfl (by kernel_rfl) (by kernel_rfl) (by kernel_rfl) (fun _ _ _ h => h) (fun w hw => by go_simp) hS ?_
            refine wpAnyH_done (by kernel_rfl) (NoPanic.normal ?_) _
            simp only [List.getElem_toArray, List.getElem_cons_succ, List.getElem_cons_zero, Act.put, List.setIfInBounds_toArray, List.set_cons_zero, List.set_cons_succ]
            go_wp2_with (at_builtin; refine wpList_append_int _ rfl (.tmp 68) (.tmp 70) rfl w1.heap.size A l c' (namesF P m) HL.out rfl (OV.out.below (alloc_bel V _)) _ (some ⟨V.heap.size, 0, none⟩) 1 rfl (src_int V _) (by omega) (by have := (hbelV).size; simp; omega) ?_; intro A7 c7 w7 ho7 hb7 hg7; have O7 := Lib.hid ho7; have D7 := Lib.hid (((hbelV).trans ((alloc_bel V _).mono (hbelV).size)).trans hb7); clear ho7 hb7 hg7)
            go_roundw
            case rel => exact ⟨m + 1, l + 1, c7, A7, by omega, by go_num, rfl, by unfold Hid; rw [HN.out, List.length_append, HL.out]; rfl, by unfold Hid; rw [HN.out]; exact O7.out, D7.out⟩
            case measure => simp [intOf] <;> omega
          | false =>
            rw [hb_] at HP1
            have hv1 : ¬ (v : Int) < d := by have := of_decide_eq_false HP1.symm; omega
            have HN := Lib.hid (namesF_no hb_)
            clear HP1 hv hcw hb_ hz hrg
            go_wp2_with fail
            refine wp_region_noPanic ?_
            refine wp_region_held_drew (S := fun W => W.cell? ⟨wb, j, none⟩ = some (.int .i64 (v : Int)) ∧ W.cell? ⟨g, 1, none⟩ = some (.int .i64 (d : Int)) ∧ True) (by kernel_rfl) (by rw [← hV]; exact HSV.out _ hbelV) (fun hS => ?_)
            rw [← hV] at hS ⊢
            clear hV
            refine hd_take 0 (.slice (some ⟨wb, 0, none⟩) m m) rfl rfl (by kernel_rfl) (by kernel_rfl) (by kernel_rfl) (fun _ _ _ h => h) (fun w hw => by go_simp) hS ?_
            refine hd_take 1 (.int .i64 (m : Int)) rfl rfl (by kernel_rfl) (by kernel_rfl) (by kernel_rfl) (fun _ _ _ h => h) (fun w hw => by go_simp) hS ?_
            refine hd_take 5 (.pointer (some ⟨g, 0, none⟩)) rfl rfl (by kernel_rfl) (by kernel_rfl) (by kernel_rfl) (fun _ _ _ h => h) (fun w hw => by go_simp) hS ?_
            simp only [List.getElem_toArray, List.getElem_cons_succ, List.getElem_cons_zero, Act.put, List.setIfInBounds_toArray, List.set_cons_zero, List.set_cons_succ]
            refine hd_take 2 (.int .i64 (j : Int)) rfl rfl (by kernel_rfl) (by kernel_rfl) (by kernel_rfl) (fun _ _ _ h => h) (fun w hw => by simp [go_sem, ej]) hS ?_
            refine hd_take 6 (.pointer (some ⟨g, 0, none⟩)) rfl rfl (by kernel_rfl) (by kernel_rfl) (by kernel_rfl) (fun _ _ _ h => h) (fun w hw => by go_simp) hS ?_
            simp only [List.getElem_toArray, List.getElem_cons_succ, List.getElem_cons_zero, Act.put, List.setIfInBounds_toArray, List.set_cons_zero, List.set_cons_succ]
            refine hd_take 3 (.pointer (some ⟨wb, j, none⟩)) rfl rfl (by kernel_rfl) (by kernel_rfl) (by kernel_rfl) (fun _ _ _ h => h) (fun w hw => by go_simp) hS ?_
            refine hd_take 7 (.pointer (some ⟨g, 0, none⟩)) rfl rfl (by kernel_rfl) (by kernel_rfl) (by kernel_rfl) (fun _ _ _ h => h) (fun w hw => by go_simp) hS ?_
            simp only [List.getElem_toArray, List.getElem_cons_succ, List.getElem_cons_zero, Act.put, List.setIfInBounds_toArray, List.set_cons_zero, List.set_cons_succ]
            refine hd_take 4 (.int .i64 (v : Int)) rfl rfl (by kernel_rfl) (by kernel_rfl) (by kernel_rfl) (fun _ _ _ h => h) (fun w hw => by have hx := hw.1; simp [go_sem, hx]) hS ?_
            refine hd_take 8 (.pointer (some ⟨g, 1, none⟩)) rfl rfl (by kernel_rfl) (by kernel_rfl) (by kernel_rfl) (fun _ _ _ h => h) (fun w hw => by go_simp) hS ?_
            simp only [List.getElem_toArray, List.getElem_cons_succ, List.getElem_cons_zero, Act.put, List.setIfInBounds_toArray, List.set_cons_zero, List.set_cons_succ]
            refine hd_take 9 (.int .i64 (d : Int)) rfl rfl (by kernel_rfl) (by kernel_rfl) (by kernel_rfl) (fun _ _ _ h => h) (fun w hw => by have hx := hw.2.1; simp [go_sem, hx]) hS ?_
            simp only [List.getElem_toArray, List.getElem_cons_succ, List.getElem_cons_zero, Act.put, List.setIfInBounds_toArray, List.set_cons_zero, List.set_cons_succ]
            refine hd_take 10 (.bool false) rfl rfl (by kernel_rfl) (by kernel_rfl) (by kernel_rfl) (fun _ _ _ h => h) (fun w hw => by first | (simp [go_sem, hv1]; done) | (simp [go_sem]; omega)) hS ?_
            simp only [List.getElem_toArray, List.getElem_cons_succ, List.getElem_cons_zero, Act.put, List.setIfInBounds_toArray, List.set_cons_zero, List.set_cons_succ]
            refine hd_take 11 (.bool false) rfl rfl (by kernel_rfl) (by kernel_rfl) (by kernel_rfl) (fun _ _ _ h => h) (fun w hw => by go_simp) hS ?_
            refine wpAnyH_done (by kernel_rfl) (NoPanic.normal ?_) _
            simp only [List.getElem_toArray, List.getElem_cons_succ, List.getElem_cons_zero, Act.put, List.setIfInBounds_toArray, List.set_cons_zero, List.set_cons_succ]
            go_wp2_with fail
            go_roundw
            case rel => exact ⟨m + 1, l, c', A, by omega, by go_num, rfl, by unfold Hid; rw [HN.out]; exact HL.out, by unfold Hid; rw [HN.out]; exact OV.out, hbelV⟩
            case measure => simp [intOf] <;> omega
        · have HP1 := HPM.out i j hj (by omega)
          obtain ⟨v2, hv2⟩ : ∃ v, wl.getD i 0 = v := ⟨_, rfl⟩
          rw [hv, hv2] at HP1
          have hle1 : v ≤ d := by rw [← hv]; exact HWB.out j (by omega)
          have hle2 : v2 ≤ d := by rw [← hv2]; exact HWB.out i (by omega)
          have HSV : Hid (∀ W, Below w1.heap.size w1 W → W.cell? ⟨wb, j, none⟩ = some (.int .i64 (v : Int)) ∧ W.cell? ⟨g, 1, none⟩ = some (.int .i64 (d : Int)) ∧ W.cell? ⟨wb, i, none⟩ = some (.int .i64 (v2 : Int)) ∧ W.rangeAt g 0 cs) := fun W hW => by
            obtain ⟨a, b, c, e⟩ := HSX.out W hW
            have h1 := a j (by omega)
            have h2 := a i (by omega)
            rw [hv] at h1
            rw [hv2] at h2
            exact ⟨h1, c, h2, e⟩
          obtain ⟨k, hk⟩ : ∃ k, v + v2 = k := ⟨_, rfl⟩
          have ek : IntKind.i64.wrap ((v : Int) + (v2 : Int)) = (k : Int) := by rw [IntKind.wrap_i64]; omega
          have HTK := Lib.hid (HTH.out k (by omega))
          rw [hk] at HP1
          generalize th k = tk at HTK HP1
          have him : ¬ (i : Int) = m := by omega
          have hims : (i : Int) < m := by omega
          cases hb_ : P i with
          | true =>
            rw [hb_] at HP1
            have hv1 : (v : Int) ≤ tk := by have := of_decide_eq_true HP1.symm; omega
            have HN := Lib.hid (namesF_yes hb_)
            clear HP1 hv hv2 hcw hj hb_ hm_ hz hrg hk
            go_wp2_with fail
            refine wp_region_noPanic ?_
            refine wp_region_held_drew (S := fun W => W.cell? ⟨wb, j, none⟩ = some (.int .i64 (v : Int)) ∧ W.cell? ⟨g, 1, none⟩ = some (.int .i64 (d : Int)) ∧ W.cell? ⟨wb, i, none⟩ = some (.int .i64 (v2 : Int)) ∧ W.rangeAt g 0 cs) (by kernel_rfl) (by rw [← hV]; exact HSV.out _ hbelV) (fun hS => ?_)
            rw [← hV] at hS ⊢
            clear hV
            refine hd_take 0 (.slice (some ⟨wb, 0, none⟩) m m) rfl rfl (by kernel_rfl) (by kernel_rfl) (by kernel_rfl) (fun _ _ _ h => h) (fun w hw => by go_simp) hS ?_
            refine hd_take 1 (.int .i64 (i : Int)) rfl rfl (by kernel_rfl) (by kernel_rfl) (by kernel_rfl) (fun _ _ _ h => h) (fun w hw => by go_simp) hS ?_
            refine hd_take 5 (.pointer (some ⟨g, 0, none⟩)) rfl rfl (by kernel_rfl) (by kernel_rfl) (by kernel_rfl) (fun _ _ _ h => h) (fun w hw => by go_simp) hS ?_
            refine hd_take 9 (.slice (some ⟨wb, 0, none⟩) m m) rfl rfl (by kernel_rfl) (by kernel_rfl) (by kernel_rfl) (fun _ _ _ h => h) (fun w hw => by go_simp) hS ?_
            refine hd_take 10 (.int .i64 (i : Int)) rfl rfl (by kernel_rfl) (by kernel_rfl) (by kernel_rfl) (fun _ _ _ h => h) (fun w hw => by go_simp) hS ?_
            refine hd_take 14 (.slice (some ⟨wb, 0, none⟩) m m) rfl rfl (by kernel_rfl) (by kernel_rfl) (by kernel_rfl) (fun _ _ _ h => h) (fun w hw => by go_simp) hS ?_
            refine hd_take 15 (.int .i64 (i : Int)) rfl rfl (by kernel_rfl) (by kernel_rfl) (by kernel_rfl) (fun _ _ _ h => h) (fun w hw => by go_simp) hS ?_
            simp only [List.getElem_toArray, List.getElem_cons_succ, List.getElem_cons_zero, Act.put, List.setIfInBounds_toArray, List.set_cons_zero, List.set_cons_succ]
            refine hd_take 2 (.int .i64 (j : Int)) rfl rfl (by kernel_rfl) (by kernel_rfl) (by kernel_rfl) (fun _ _ _ h => h) (fun w hw => by simp [go_sem, ej]) hS ?_
            refine hd_take 6 (.pointer (some ⟨g, 0, none⟩)) rfl rfl (by kernel_rfl) (by kernel_rfl) (by kernel_rfl) (fun _ _ _ h => h) (fun w hw => by go_simp) hS ?_
            refine hd_take 11 (.int .i64 (j : Int)) rfl rfl (by kernel_rfl) (by kernel_rfl) (by kernel_rfl) (fun _ _ _ h => h) (fun w hw => by simp [go_sem, ej]) hS ?_
            refine hd_take 16 (.pointer (some ⟨wb, i, none⟩)) rfl rfl (by kernel_rfl) (by kernel_rfl) (by kernel_rfl) (fun _ _ _ h => h) (fun w hw => by go_simp) hS ?_
            simp only [List.getElem_toArray, List.getElem_cons_succ, List.getElem_cons_zero, Act.put, List.setIfInBounds_toArray, List.set_cons_zero, List.set_cons_succ]
            refine hd_take 3 (.pointer (some ⟨wb, j, none⟩)) rfl rfl (by kernel_rfl) (by kernel_rfl) (by kernel_rfl) (fun _ _ _ h => h) (fun w hw => by go_simp) hS ?_
            refine hd_take 7 (.pointer (some ⟨g, 0, none⟩)) rfl rfl (by kernel_rfl) (by kernel_rfl) (by kernel_rfl) (fun _ _ _ h => h) (fun w hw => by go_simp) hS ?_
            refine hd_take 12 (.pointer (some ⟨wb, j, none⟩)) rfl rfl (by kernel_rfl) (by kernel_rfl) (by kernel_rfl) (fun _ _ _ h => h) (fun w hw => by go_simp) hS ?_
            refine hd_take 17 (.int .i64 (v2 : Int)) rfl rfl (by kernel_rfl) (by kernel_rfl) (by kernel_rfl) (fun _ _ _ h => h) (fun w hw => by have hx := hw.2.2.1; simp [go_sem, hx]) hS ?_
            simp only [List.getElem_toArray, List.getElem_cons_succ, List.getElem_cons_zero, Act.put, List.setIfInBounds_toArray, List.set_cons_zero, List.set_cons_succ]
            refine hd_take 4 (.int .i64 (v : Int)) rfl rfl (by kernel_rfl) (by kernel_rfl) (by kernel_rfl) (fun _ _ _ h => h) (fun w hw => by have hx := hw.1; simp [go_sem, hx]) hS ?_
            refine hd_load 8 g 0 cs 29 (.tmp 28) rfl rfl rfl (by kernel_rfl) (by kernel_rfl) (by kernel_rfl) (fun _ _ _ h => h) rfl (fun w hw => hw.2.2.2) Tryz.underlying29 rfl (infoS HL20.out) hS ?_
            refine hd_take 13 (.int .i64 (v : Int)) rfl rfl (by kernel_rfl) (by kernel_rfl) (by kernel_rfl) (fun _ _ _ h => h) (fun w hw => by have hx := hw.1; simp [go_sem, hx]) hS ?_
            simp only [List.getElem_toArray, List.getElem_cons_succ, List.getElem_cons_zero, Act.put, List.setIfInBounds_toArray, List.set_cons_zero, List.set_cons_succ]
            refine hd_take 18 (.int .i64 (k : Int)) rfl rfl (by kernel_rfl) (by kernel_rfl) (by kernel_rfl) (fun _ _ _ h => h) (fun w hw => by simp [go_sem, ek]) hS ?_
            simp only [List.getElem_toArray, List.getElem_cons_succ, List.getElem_cons_zero, Act.put, List.setIfInBounds_toArray, List.set_cons_zero, List.set_cons_succ]
            refine hd_calls 19 79 #[.agg cs.toArray, .int .i64 (k : Int)] rfl rfl (by kernel_rfl) (by go_simp) ((HTK.out _ (HD1.out _ hbelV)).mono ?_)
            rintro e w3 ⟨rfl, hb⟩
            have hbel3 := bel_on hbelV hb
            have hS3 := HSV.out _ hbel3
            refine ⟨_, rfl, hS3, ?_⟩
            simp only [List.getElem_toArray, List.getElem_cons_succ, List.getElem_cons_zero, Act.put, List.setIfInBounds_toArray, List.set_cons_zero, List.set_cons_succ]
            refine hd_take 20 (.bool true) rfl rfl (by kernel_rfl) (by kernel_rfl) (by kernel_rfl) (fun _ _ _ h => h) (fun w hw => by first | (simp [go_sem, hv1]; done) | (simp [go_sem]; omega)) hS3 ?_
            simp only [List.getElem_toArray, List.getElem_cons_succ, List.getElem_cons_zero, Act.put, List.setIfInBounds_toArray, List.set_cons_zero, List.set_cons_succ]
            refine hd_take 21 (.bool true) rfl rfl (by kernel_rfl) (by kernel_rfl) (by kernel_rfl) (fun _ _ _ h => h) (fun w hw => by go_simp) hS3 ?_
            refine wpAnyH_done (by kernel_rfl) (NoPanic.normal ?_) _
            simp only [List.getElem_toArray, List.getElem_cons_succ, List.getElem_cons_zero, Act.put, List.setIfInBounds_toArray, List.set_cons_zero, List.set_cons_succ]
            have O3 := Lib.hid (OV.out.below hb)
            go_wp2_with (at_builtin; refine wpList_append_int _ rfl (.tmp 68) (.tmp 70) rfl w1.heap.size A l c' (namesF P i) HL.out rfl (O3.out.below (alloc_bel w3 _)) _ (some ⟨w3.heap.size, 0, none⟩) 1 rfl (src_int w3 _) (by omega) (by have := (hbel3).size; simp; omega) ?_; intro A7 c7 w7 ho7 hb7 hg7; have O7 := Lib.hid ho7; have D7 := Lib.hid (((hbel3).trans ((alloc_bel w3 _).mono (hbel3).size)).trans hb7); clear ho7 hb7 hg7)
            go_roundw
            case rel => exact ⟨i + 1, l + 1, c7, A7, by omega, by go_num, rfl, by unfold Hid; rw [HN.out, List.length_append, HL.out]; rfl, by unfold Hid; rw [HN.out]; exact O7.out, D7.out⟩
            case measure => simp [intOf] <;> omega
          | false =>
            rw [hb_] at HP1
            have hv1 : ¬ (v : Int) ≤ tk := by have := of_decide_eq_false HP1.symm; omega
            have HN := Lib.hid (namesF_no hb_)
            clear HP1 hv hv2 hcw hj hb_ hm_ hz hrg hk
            go_wp2_with fail
            refine wp_region_noPanic ?_
            refine wp_region_held_drew (S := fun W => W.cell? ⟨wb, j, none⟩ = some (.int .i64 (v : Int)) ∧ W.cell? ⟨g, 1, none⟩ = some (.int .i64 (d : Int)) ∧ W.cell? ⟨wb, i, none⟩ = some (.int .i64 (v2 : Int)) ∧ W.rangeAt g 0 cs) (by kernel_rfl) (by rw [← hV]; exact HSV.out _ hbelV) (fun hS => ?_)
            rw [← hV] at hS ⊢
            clear hV
            refine hd_take 0 (.slice (some ⟨wb, 0, none⟩) m m) rfl rfl (by kernel_rfl) (by kernel_rfl) (by kernel_rfl) (fun _ _ _ h => h) (fun w hw => by go_simp) hS ?_
            refine hd_take 1 (.int .i64 (i : Int)) rfl rfl (by kernel_rfl) (by kernel_rfl) (by kernel_rfl) (fun _ _ _ h => h) (fun w hw => by go_simp) hS ?_
            refine hd_take 5 (.pointer (some ⟨g, 0, none⟩)) rfl rfl (by kernel_rfl) (by kernel_rfl) (by kernel_rfl) (fun _ _ _ h => h) (fun w hw => by go_simp) hS ?_
            refine hd_take 9 (.slice (some ⟨wb, 0, none⟩) m m) rfl rfl (by kernel_rfl) (by kernel_rfl) (by kernel_rfl) (fun _ _ _ h => h) (fun w hw => by go_simp) hS ?_
            refine hd_take 10 (.int .i64 (i : Int)) rfl rfl (by kernel_rfl) (by kernel_rfl) (by kernel_rfl) (fun _ _ _ h => h) (fun w hw => by go_simp) hS ?_
            refine hd_take 14 (.slice (some ⟨wb, 0, none⟩) m m) rfl rfl (by kernel_rfl) (by kernel_rfl) (by kernel_rfl) (fun _ _ _ h => h) (fun w hw => by go_simp) hS ?_
            refine hd_take 15 (.int .i64 (i : Int)) rfl rfl (by kernel_rfl) (by kernel_rfl) (by kernel_rfl) (fun _ _ _ h => h) (fun w hw => by go_simp) hS ?_
            simp only [List.getElem_toArray, List.getElem_cons_succ, List.getElem_cons_zero, Act.put, List.setIfInBounds_toArray, List.set_cons_zero, List.set_cons_succ]
            refine hd_take 2 (.int .i64 (j : Int)) rfl rfl (by kernel_rfl) (by kernel_rfl) (by kernel_rfl) (fun _ _ _ h => h) (fun w hw => by simp [go_sem, ej]) hS ?_
            refine hd_take 6 (.pointer (some ⟨g, 0, none⟩)) rfl rfl (by kernel_rfl) (by kernel_rfl) (by kernel_rfl) (fun _ _ _ h => h) (fun w hw => by go_simp) hS ?_
            refine hd_take 11 (.int .i64 (j : Int)) rfl rfl (by kernel_rfl) (by kernel_rfl) (by kernel_rfl) (fun _ _ _ h => h) (fun w hw => by simp [go_sem, ej]) hS ?_
            refine hd_take 16 (.pointer (some ⟨wb, i, none⟩)) rfl rfl (by kernel_rfl) (by kernel_rfl) (by kernel_rfl) (fun _ _ _ h => h) (fun w hw => by go_simp) hS ?_
            simp only [List.getElem_toArray, List.getElem_cons_succ, List.getElem_cons_zero, Act.put, List.setIfInBounds_toArray, List.set_cons_zero, List.set_cons_succ]
            refine hd_take 3 (.pointer (some ⟨wb, j, none⟩)) rfl rfl (by kernel_rfl) (by kernel_rfl) (by kernel_rfl) (fun _ _ _ h => h) (fun w hw => by go_simp) hS ?_
            refine hd_take 7 (.pointer (some ⟨g, 0, none⟩)) rfl rfl (by kernel_rfl) (by kernel_rfl) (by kernel_rfl) (fun _ _ _ h => h) (fun w hw => by go_simp) hS ?_
            refine hd_take 12 (.pointer (some ⟨wb, j, none⟩)) rfl rfl (by kernel_rfl) (by kernel_rfl) (by kernel_rfl) (fun _ _ _ h => h) (fun w hw => by go_simp) hS ?_
            refine hd_take 17 (.int .i64 (v2 : Int)) rfl rfl (by kernel_rfl) (by kernel_rfl) (by kernel_rfl) (fun _ _ _ h => h) (fun w hw => by have hx := hw.2.2.1; simp [go_sem, hx]) hS ?_
            simp only [List.getElem_toArray, List.getElem_cons_succ, List.getElem_cons_zero, Act.put, List.setIfInBounds_toArray, List.set_cons_zero, List.set_cons_succ]
            refine hd_take 4 (.int .i64 (v : Int)) rfl rfl (by kernel_rfl) (by kernel_rfl) (by kernel_rfl) (fun _ _ _ h => h) (fun w hw => by have hx := hw.1; simp [go_sem, hx]) hS ?_
            refine hd_load 8 g 0 cs 29 (.tmp 28) rfl rfl rfl (by kernel_rfl) (by kernel_rfl) (by kernel_rfl) (fun _ _ _ h => h) rfl (fun w hw => hw.2.2.2) Tryz.underlying29 rfl (infoS HL20.out) hS ?_
            refine hd_take 13 (.int .i64 (v : Int)) rfl rfl (by kernel_rfl) (by kernel_rfl) (by kernel_rfl) (fun _ _ _ h => h) (fun w hw => by have hx := hw.1; simp [go_sem, hx]) hS ?_
            simp only [List.getElem_toArray, List.getElem_cons_succ, List.getElem_cons_zero, Act.put, List.setIfInBounds_toArray, List.set_cons_zero, List.set_cons_succ]
            refine hd_take 18 (.int .i64 (k : Int)) rfl rfl (by kernel_rfl) (by kernel_rfl) (by kernel_rfl) (fun _ _ _ h => h) (fun w hw => by simp [go_sem, ek]) hS ?_
            simp only [List.getElem_toArray, List.getElem_cons_succ, List.getElem_cons_zero, Act.put, List.setIfInBounds_toArray, List.set_cons_zero, List.set_cons_succ]
            refine hd_calls 19 79 #[.agg cs.toArray, .int .i64 (k : Int)] rfl rfl (by kernel_rfl) (by go_simp) ((HTK.out _ (HD1.out _ hbelV)).mono ?_)
            rintro e w3 ⟨rfl, hb⟩
            have hbel3 := bel_on hbelV hb
            have hS3 := HSV.out _ hbel3
            refine ⟨_, rfl, hS3, ?_⟩
            simp only [List.getElem_toArray, List.getElem_cons_succ, List.getElem_cons_zero, Act.put, List.setIfInBounds_toArray, List.set_cons_zero, List.set_cons_succ]
            refine hd_take 20 (.bool false) rfl rfl (by kernel_rfl) (by kernel_rfl) (by kernel_rfl) (fun _ _ _ h => h) (fun w hw => by first | (simp [go_sem, hv1]; done) | (simp [go_sem]; omega)) hS3 ?_
            simp only [List.getElem_toArray, List.getElem_cons_succ, List.getElem_cons_zero, Act.put, List.setIfInBounds_toArray, List.set_cons_zero, List.set_cons_succ]
            refine hd_take 21 (.bool false) rfl rfl (by kernel_rfl) (by kernel_rfl) (by kernel_rfl) (fun _ _ _ h => h) (fun w hw => by go_simp) hS3 ?_
            refine wpAnyH_done (by kernel_rfl) (NoPanic.normal ?_) _
            simp only [List.getElem_toArray, List.getElem_cons_succ, List.getElem_cons_zero, Act.put, List.setIfInBounds_toArray, List.set_cons_zero, List.set_cons_succ]
            have O3 := Lib.hid (OV.out.below hb)
            go_wp2_with fail
            go_roundw
            case rel => exact ⟨i + 1, l, c', A, by omega, by go_num, rfl, by unfold Hid; rw [HN.out]; exact HL.out, by unfold Hid; rw [HN.out]; exact O3.out, hbel3⟩
            case measure => simp [intOf] <;> omega
    · obtain rfl : i = m + 1 := by omega
      have hx : ¬ (((m + 1 : Nat) : Int) < (m : Int) + 1) := by omega
      have hx2 : ¬ ((m : Int) + 1 < (m : Int) + 1) := by omega
      clear hcw
      go_wp2_with fail
      go_ret
      rw [HP.out, HL.out]
      exact ⟨⟨A, c', rfl, HO.out.le_ (by have := HWW.out; omega)⟩, by rw [HWW.out]; exact HD1.out _ hbel1⟩
end Go.Proofs.YtchnaimpmegbkaaGreatDoor
