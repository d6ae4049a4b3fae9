/-
  isWord and isCopy of the program; whether some row of a list fits a closure.
-/
import Derived.Test.YtenpkmgbaajeeaaCodeSyms
import Derived.Test.YtenpkmgbaajeeaaArrEq
namespace Go.Proofs.Ytenpkmgbaajeeaa
open Go.RowKit
set_option linter.unusedVariables false

theorem beq4_word (l : List UInt8) (n : Nat) : ([(cn l 0 : Int), (cn l 1 : Int), (cn l 2 : Int), (cn l 3 : Int)] == [(cn l 0 : Int), (n : Int) - (cn l 0 : Int), 0, 0]) = wordB l n := by
  rw [Bool.eq_iff_iff, word_cn]
  simp
  omega
set_option maxHeartbeats 1000000 in
theorem isWord_any (A : Option Addr) (c : Nat) (l : List UInt8) (m : Nat) (w : World) {n : Nat} (hn : l.length = n) (h : BR w A c l) (hm : m ≤ 140737488351232) :
    Calls Try.prog 23 #[.slice A n c, .int .i64 (m : Int)] w fun e w' => e = .returned (.bool (wordB l m)) ∧ Below w.heap.size w w' := by
  have HN := Lib.hid hn
  have H := Lib.hid h
  have hlen : (n : Int) ≤ 140737488351232 := by have := h.len; omega
  have hm2 : (m : Int) ≤ 140737488351232 := by omega
  have hc0 : (cn l 0 : Int) ≤ n := by have := cn_le l 0; omega
  have HS := Lib.hid (beq4_word l m)
  have HC : Hid (cntV l = #[.int .i64 (cn l 0), .int .i64 (cn l 1), .int .i64 (cn l 2), .int .i64 (cn l 3)]) := rfl
  have heq := fun W => run_eql_4 W (cn l 0) (cn l 1) (cn l 2) (cn l 3) (cn l 0) ((m : Int) - cn l 0) 0 0
  clear hn h
  go_enter Try.func23, Try.ntmps23
  go_wp2_with (go_at_call 51; refine (counted_any A c l _ HN.out H.out).mono ?_; rintro e w' ⟨rfl, rfl⟩; rw [HC.out])
  go_ret
  exact ⟨ret_bool' (by have := HS.out; simpa using this), ((Below.refl _ _).alloc (Nat.le_refl _) _).alloc (by simp) _⟩
set_option maxHeartbeats 1000000 in
theorem isCopy_any (A : Option Addr) (c : Nat) (l : List UInt8) (m : Nat) (w : World) {n : Nat} (hn : l.length = n) (h : BR w A c l) (hm : m ≤ 140737488351232) :
    Calls Try.prog 24 #[.slice A n c, .int .i64 (m : Int)] w fun e w' => e = .returned (.bool (copyB l m)) ∧ Below w.heap.size w w' := by
  have hlen : (n : Int) ≤ 140737488351232 := by have := h.len; omega
  have HN := Lib.hid hn
  have H := Lib.hid h
  have HC : Hid (cntV l = #[.int .i64 (cn l 0), .int .i64 (cn l 1), .int .i64 (cn l 2), .int .i64 (cn l 3)]) := rfl
  have hcp := copy_cn l m
  have hix : ∀ W, (Instr.index 92 (.agg #[.int .i64 (cn l 0), .int .i64 (cn l 1), .int .i64 (cn l 2), .int .i64 (cn l 3)]) (.int .i64 3)).run Try.prog W = .ok (.int .i64 (cn l 3)) W := fun _ => by kernel_rfl
  by_cases e : n = m
  · have t1 : ((n : Int) == (m : Int)) = true := by simp; omega
    have t2 : (n == m) = true := by simp; omega
    have HS : Hid (((cn l 3 : Int) == 0) = copyB l m) := by unfold Hid; rw [Bool.eq_iff_iff, hcp]; simp; omega
    clear hn h e hcp
    go_enter Try.func24, Try.ntmps24
    go_wp2_with (go_at_call 51; refine (counted_any A c l _ HN.out H.out).mono ?_; rintro e w' ⟨rfl, rfl⟩; rw [HC.out])
    go_ret
    exact ⟨ret_bool' (by have := HS.out; simpa using this), (Below.refl _ _).alloc (Nat.le_refl _) _⟩
  · have HS : Hid (copyB l m = false) := by unfold Hid copyB; rw [hn]; simp [e]
    have t1 : ((n : Int) == (m : Int)) = false := by simp; omega
    have t2 : (n == m) = false := by simp; omega
    clear hn h e hcp
    go_enter Try.func24, Try.ntmps24
    go_wp2_with fail
    go_ret
    exact ⟨ret_bool' HS.out.symm, Below.refl _ _⟩

/-- The first index for which p holds, or -1. -/
def idxI (n : Nat) (p : Nat → Bool) : Int := match (List.range n).find? p with | some i => i | none => -1
def anyI (n : Nat) (p : Nat → Bool) : Bool := (List.range n).any p
theorem idxI_some {n k : Nat} {p : Nat → Bool} (hk : k < n) (hp : p k = true) (hlt : ∀ j, j < k → p j = false) : idxI n p = k := by
  have h : (List.range n).find? p = some k := by
    rw [List.find?_range_eq_some]
    exact ⟨by simpa using hp, by simpa using hk, fun j hj => by simp [hlt j hj]⟩
  unfold idxI
  rw [h]
theorem idxI_none {n : Nat} {p : Nat → Bool} (h : ∀ j, j < n → p j = false) : idxI n p = -1 := by
  have h : (List.range n).find? p = none := by
    rw [List.find?_eq_none]
    intro x hx
    rw [h x (List.mem_range.1 hx)]
    simp
  unfold idxI
  rw [h]
theorem idxI_any (n : Nat) (p : Nat → Bool) : decide (0 ≤ idxI n p) = anyI n p := by
  unfold idxI anyI
  cases h : (List.range n).find? p with
  | none =>
    rw [List.find?_eq_none] at h
    rw [Bool.eq_iff_iff]
    simp only [decide_eq_true_eq, List.any_eq_true]
    exact ⟨fun h => by omega, fun ⟨x, hx, hp⟩ => absurd hp (h x hx)⟩
  | some i =>
    have h1 := List.mem_of_find?_eq_some h
    have h2 := List.find?_some h
    rw [Bool.eq_iff_iff]
    simp only [decide_eq_true_eq, List.any_eq_true]
    exact ⟨fun _ => ⟨i, h1, h2⟩, fun _ => by omega⟩
theorem anyI_iff {n : Nat} {p : Nat → Bool} : anyI n p = true ↔ ∃ i, i < n ∧ p i = true := by simp [anyI]

set_option maxHeartbeats 1000000 in
set_option maxRecDepth 100000 in
theorem IndexRows_any (A : Option Addr) (c : Nat) (rs : List BRow) (F : FuncId) (cap : Array Value) (p : Nat → Bool) (w : World) (hE : ∀ args W, (callFunc F args).run Try.prog W = .ok (.enter F args) W) {n : Nat} (hn : rs.length = n) (h : Rd w 1 A c rs.length (rs.map BRow.v))
    (hf : ∀ i r W, rs[i]? = some r → Below w.heap.size w W → Calls Try.prog F (#[r.v] ++ cap) W fun e W' => e = .returned (.bool (p i)) ∧ Below W.heap.size W W') :
    Calls Try.prog 50 #[.slice A n c, .func (.func F) #[] cap] w fun e w' => e = .returned (.int .i64 (idxI n p)) ∧ Below w.heap.size w w' := by
  have hlen : (n : Int) ≤ 140737488351232 := by have := h.len; omega
  have HN := Lib.hid hn
  have H := Lib.hid h
  have HF := Lib.hid hf
  clear hn h hf
  go_enter Try.func50, Try.ntmps50
  go_wp2_with fail
  go_loopw [8] (fun vk wr => ∃ k : Nat, k ≤ n ∧ vk = .int .i64 k ∧ Hid (∀ j, j < k → p j = false) ∧ Below w.heap.size w wr) (fun vk _ => n - (intOf vk).toNat)
  case atStart => exact ⟨0, by omega, rfl, fun j hj => absurd hj (by omega), Below.refl _ _⟩
  case round =>
    obtain ⟨k, hk, rfl, HK, hbel⟩ := hrel
    by_cases hkn : k < n
    · obtain ⟨b, off, rfl, hb, v, hv, hc0⟩ := Rd.at1 H.out (i := k) (by have := HN.out; omega)
      have hc := (hbel.cell (p := ⟨b, off + k, none⟩) hb).trans hc0
      obtain ⟨r, hr, hrv⟩ : ∃ r, rs[k]? = some r ∧ r.v = v := by simpa [List.getElem?_map] using hv
      have HR := Lib.hid hr
      rw [← hrv] at hc
      have HC := HF.out k r wr hr hbel
      clear hc0 hv hr hrv
      rcases hp : p k with _ | _
      · have HK2 : Hid (∀ j, j < k + 1 → p j = false) := fun j hj => by
          rcases Nat.lt_or_ge j k with h' | h'
          · exact HK.out j h'
          · rw [show j = k from by omega]; exact hp
        rw [hp] at HC
        have HC2 := Lib.hid HC
        clear HC hp
        go_wp2_with fail
        refine HC2.out.mono ?_
        rintro e w1 ⟨rfl, hb1⟩
        go_wp2_with fail
        go_roundw
        case rel => exact ⟨k + 1, by omega, by go_num, HK2, hbel.trans (hb1.mono hbel.size)⟩
        case measure => simp [intOf]; omega
      · have HI : Hid (idxI n p = k) := idxI_some hkn hp HK.out
        rw [hp] at HC
        have HC2 := Lib.hid HC
        clear HC hp
        go_wp2_with fail
        refine HC2.out.mono ?_
        rintro e w1 ⟨rfl, hb1⟩
        go_wp2_with fail
        go_ret
        exact ⟨ret_int' HI.out.symm, hbel.trans (hb1.mono hbel.size)⟩
    · have HI : Hid (idxI n p = -1) := idxI_none fun j hj => HK.out j (by omega)
      go_wp2_with fail
      go_ret
      exact ⟨ret_int' HI.out.symm, hbel⟩
set_option maxHeartbeats 400000 in
theorem ContainsRows_any (A : Option Addr) (c : Nat) (rs : List BRow) (F : FuncId) (cap : Array Value) (p : Nat → Bool) (w : World) (hE : ∀ args W, (callFunc F args).run Try.prog W = .ok (.enter F args) W) {n : Nat} (hn : rs.length = n) (h : Rd w 1 A c rs.length (rs.map BRow.v))
    (hf : ∀ i r W, rs[i]? = some r → Below w.heap.size w W → Calls Try.prog F (#[r.v] ++ cap) W fun e W' => e = .returned (.bool (p i)) ∧ Below W.heap.size W W') :
    Calls Try.prog 21 #[.slice A n c, .func (.func F) #[] cap] w fun e w' => e = .returned (.bool (anyI n p)) ∧ Below w.heap.size w w' := by
  have HI := Lib.hid (IndexRows_any A c rs F cap p w hE hn h hf)
  have HA := Lib.hid (idxI_any n p)
  clear hn h hf hE
  go_enter Try.func21, Try.ntmps21
  go_wp2_with (go_at_call 50; refine HI.out.mono ?_; rintro e w1 ⟨rfl, hb1⟩)
  go_ret
  exact ⟨ret_bool' HA.out, hb1⟩
end Go.Proofs.Ytenpkmgbaajeeaa
