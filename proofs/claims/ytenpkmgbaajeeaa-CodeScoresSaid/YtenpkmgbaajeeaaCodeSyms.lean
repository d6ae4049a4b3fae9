/-
  Symbols: words and copies, in the program and in the reference.
-/
import Derived.Test.YtenpkmgbaajeeaaMemR
namespace Go.Proofs.Ytenpkmgbaajeeaa
open Go.RowKit
set_option linter.unusedVariables false

/-- All symbols are at most m. -/
def symB (l : List UInt8) (m : Nat) : Bool := l.all fun c => decide (c.toNat ≤ m)
theorem symB_iff {l : List UInt8} {m : Nat} : symB l m = true ↔ ∀ i, i < l.length → bt l i ≤ m := by
  unfold symB
  rw [List.all_eq_true]
  constructor
  · intro h i hi
    rw [bt_in hi]
    simpa using h _ (List.getElem_mem hi)
  · intro h c hc
    obtain ⟨i, hi, rfl⟩ := List.getElem_of_mem hc
    have := h i hi
    rw [bt_in hi] at this
    simpa using this
theorem symB_no {l : List UInt8} {m i : Nat} (hi : i < l.length) (h : m < bt l i) : symB l m = false := by
  cases hs : symB l m
  · rfl
  · have := symB_iff.1 hs i hi
    omega
/-- A word, a copy of n places. -/
def wordB (l : List UInt8) (n : Nat) : Bool := decide (l.length = n) && symB l 1
def copyB (l : List UInt8) (n : Nat) : Bool := decide (l.length = n) && symB l 2

theorem ret_int' {k : IntKind} {a b : Int} (h : a = b) : Ending.returned (.int k a) = .returned (.int k b) := by rw [h]
theorem ret_bool' {a b : Bool} (h : a = b) : Ending.returned (.bool a) = .returned (.bool b) := by rw [h]
theorem int_le_of' {a b : Nat} (h : a ≤ b) : (a : Int) ≤ b := by omega

set_option maxHeartbeats 400000 in
theorem symbols_any (A : Option Addr) (c : Nat) (l : List UInt8) (m : Nat) (w : World) {n : Nat} (hn : l.length = n) (h : BR w A c l) (hm : m ≤ 255) :
    Calls Try.prog 52 #[.slice A n c, .int .u8 (m : Int)] w fun e w' => e = .returned (.bool (symB l m)) ∧ w = w' := by
  have hlen : (n : Int) ≤ 140737488351232 := by have := h.len; omega
  have HN := Lib.hid hn
  have H := Lib.hid h
  clear hn h
  go_enter Try.func52, Try.ntmps52
  go_wp2_with fail
  go_loop [5] (fun vk => ∃ k : Nat, k ≤ n ∧ vk = .int .i64 k ∧ Hid (∀ j, j < k → bt l j ≤ m)) (fun vk => n - (intOf vk).toNat)
  case atStart => exact ⟨0, by omega, rfl, fun j hj => absurd hj (by omega)⟩
  case round =>
    obtain ⟨k, hk, rfl, HK⟩ := hrel
    by_cases hkn : k < n
    · obtain ⟨b, off, rfl, hb, hc⟩ := H.out.at_ (i := k) (by have := HN.out; omega)
      have hx := bt_le l k
      by_cases hle : bt l k ≤ m
      · have HK2 : Hid (∀ j, j < k + 1 → bt l j ≤ m) := fun j hj => by
          rcases Nat.lt_or_ge j k with h' | h'
          · exact HK.out j h'
          · rw [show j = k from by omega]; exact hle
        have t1 : decide ((m : Int) < (bt l k : Int)) = false := by simp; omega
        have t1' : decide (m < bt l k) = false := by simp; omega
        clear hle
        go_wp2_with fail
        go_round
        case rel => exact ⟨k + 1, by omega, by go_num, HK2⟩
        case measure => simp [intOf]; omega
      · have HF : Hid (symB l m = false) := symB_no (i := k) (by have := HN.out; omega) (by omega)
        have t1 : decide ((m : Int) < (bt l k : Int)) = true := by simp; omega
        have t1' : decide (m < bt l k) = true := by simp; omega
        clear hle
        go_wp2_with fail
        go_ret
        exact ⟨ret_bool' HF.out.symm, rfl⟩
    · have HT : Hid (symB l m = true) := symB_iff.2 fun i hi => HK.out i (by have := HN.out; omega)
      go_wp2_with fail
      go_ret
      exact ⟨ret_bool' HT.out.symm, rfl⟩

set_option maxHeartbeats 400000 in
theorem refIsWord_any (A : Option Addr) (c : Nat) (l : List UInt8) (m : Nat) (w : World) {n : Nat} (hn : l.length = n) (h : BR w A c l) (hm : m ≤ 140737488351232) :
    Calls Try.prog 33 #[.slice A n c, .int .i64 (m : Int)] w fun e w' => e = .returned (.bool (wordB l m)) ∧ w = w' := by
  have hlen : (n : Int) ≤ 140737488351232 := by have := h.len; omega
  have HN := Lib.hid hn
  have H := Lib.hid h
  by_cases e : n = m
  · have HS : Hid (wordB l m = symB l 1) := by unfold Hid wordB; rw [hn, e]; simp
    have t1 : ((n : Int) == (m : Int)) = true := by simp; omega
    have t2 : (n == m) = true := by simp; omega
    clear hn h e
    go_enter Try.func33, Try.ntmps33
    go_wp2_with (go_at_call 52; refine (symbols_any A c l 1 _ HN.out H.out (by omega)).mono ?_; rintro e w' ⟨rfl, rfl⟩)
    go_ret
    exact ⟨ret_bool' HS.out.symm, rfl⟩
  · have HS : Hid (wordB l m = false) := by unfold Hid wordB; rw [hn]; simp [e]
    have t1 : ((n : Int) == (m : Int)) = false := by simp; omega
    have t2 : (n == m) = false := by simp; omega
    clear hn h e
    go_enter Try.func33, Try.ntmps33
    go_wp2_with fail
    go_ret
    exact ⟨ret_bool' HS.out.symm, rfl⟩
set_option maxHeartbeats 400000 in
theorem refIsCopy_any (A : Option Addr) (c : Nat) (l : List UInt8) (m : Nat) (w : World) {n : Nat} (hn : l.length = n) (h : BR w A c l) (hm : m ≤ 140737488351232) :
    Calls Try.prog 27 #[.slice A n c, .int .i64 (m : Int)] w fun e w' => e = .returned (.bool (copyB l m)) ∧ w = w' := by
  have hlen : (n : Int) ≤ 140737488351232 := by have := h.len; omega
  have HN := Lib.hid hn
  have H := Lib.hid h
  by_cases e : n = m
  · have HS : Hid (copyB l m = symB l 2) := by unfold Hid copyB; rw [hn, e]; simp
    have t1 : ((n : Int) == (m : Int)) = true := by simp; omega
    have t2 : (n == m) = true := by simp; omega
    clear hn h e
    go_enter Try.func27, Try.ntmps27
    go_wp2_with (go_at_call 52; refine (symbols_any A c l 2 _ HN.out H.out (by omega)).mono ?_; rintro e w' ⟨rfl, rfl⟩)
    go_ret
    exact ⟨ret_bool' HS.out.symm, rfl⟩
  · have HS : Hid (copyB l m = false) := by unfold Hid copyB; rw [hn]; simp [e]
    have t1 : ((n : Int) == (m : Int)) = false := by simp; omega
    have t2 : (n == m) = false := by simp; omega
    clear hn h e
    go_enter Try.func27, Try.ntmps27
    go_wp2_with fail
    go_ret
    exact ⟨ret_bool' HS.out.symm, rfl⟩

/-- How many symbols are v, where whatever is above 2 counts as 3. -/
def cn (l : List UInt8) (v : Nat) : Nat := l.countP fun c => decide (min c.toNat 3 = v)
def cntV (l : List UInt8) : Array Value := #[.int .i64 (cn l 0), .int .i64 (cn l 1), .int .i64 (cn l 2), .int .i64 (cn l 3)]
theorem cn_cons (a : UInt8) (l : List UInt8) (v : Nat) : cn (a :: l) v = cn l v + if min a.toNat 3 = v then 1 else 0 := by simp [cn, List.countP_cons]
theorem cn_snoc (a : UInt8) (l : List UInt8) (v : Nat) : cn (l ++ [a]) v = cn l v + if min a.toNat 3 = v then 1 else 0 := by simp [cn, List.countP_append, List.countP_cons]
theorem cn_sum (l : List UInt8) : cn l 0 + cn l 1 + cn l 2 + cn l 3 = l.length := by
  induction l with
  | nil => rfl
  | cons a l ih =>
    rw [cn_cons, cn_cons, cn_cons, cn_cons, List.length_cons]
    have h : min a.toNat 3 = 0 ∨ min a.toNat 3 = 1 ∨ min a.toNat 3 = 2 ∨ min a.toNat 3 = 3 := by omega
    rcases h with h | h | h | h <;> rw [h] <;> simp <;> omega
theorem cn_take_succ {l : List UInt8} {k v : Nat} (h : k < l.length) : cn (l.take (k + 1)) v = cn (l.take k) v + if min (bt l k) 3 = v then 1 else 0 := by
  rw [List.take_succ_eq_append_getElem h, bt_in h, cn_snoc]
theorem cn_le (l : List UInt8) (v : Nat) : cn l v ≤ l.length := List.countP_le_length
theorem word_cn (l : List UInt8) (n : Nat) : wordB l n = true ↔ cn l 1 + cn l 0 = n ∧ cn l 2 = 0 ∧ cn l 3 = 0 := by
  unfold wordB symB
  have hs := cn_sum l
  have h23 : l.all (fun c => decide (c.toNat ≤ 1)) = true ↔ cn l 2 = 0 ∧ cn l 3 = 0 := by
    simp only [cn, List.countP_eq_zero, List.all_eq_true, decide_eq_true_eq]
    constructor
    · intro h; exact ⟨fun a ha => by have := h a ha; omega, fun a ha => by have := h a ha; omega⟩
    · rintro ⟨h1, h2⟩ a ha; have := h1 a ha; have := h2 a ha; omega
  rw [Bool.and_eq_true, h23, decide_eq_true_eq]
  omega
theorem copy_cn (l : List UInt8) (n : Nat) : copyB l n = true ↔ l.length = n ∧ cn l 3 = 0 := by
  unfold copyB symB
  have h3 : l.all (fun c => decide (c.toNat ≤ 2)) = true ↔ cn l 3 = 0 := by
    simp only [cn, List.countP_eq_zero, List.all_eq_true, decide_eq_true_eq]
    constructor
    · intro h a ha; have := h a ha; omega
    · intro h1 a ha; have := h1 a ha; omega
  rw [Bool.and_eq_true, h3, decide_eq_true_eq]

theorem cnt_cong {a b c d a' b' c' d' : Nat} (h1 : a = a') (h2 : b = b') (h3 : c = c') (h4 : d = d') : (#[.int .i64 (a : Int), .int .i64 (b : Int), .int .i64 (c : Int), .int .i64 (d : Int)] : Array Value) = #[.int .i64 (a' : Int), .int .i64 (b' : Int), .int .i64 (c' : Int), .int .i64 (d' : Int)] := by
  rw [h1, h2, h3, h4]
set_option maxHeartbeats 1000000 in
theorem counted_any (A : Option Addr) (c : Nat) (l : List UInt8) (w : World) {n : Nat} (hn : l.length = n) (h : BR w A c l) :
    Calls Try.prog 51 #[.slice A n c] w fun e w' => e = .returned (.agg (cntV l)) ∧ w' = w.alloc (.cells (cntV l) 92) := by
  have hlen : (n : Int) ≤ 140737488351232 := by have := h.len; omega
  have HN := Lib.hid hn
  have H := Lib.hid h
  have HE : Hid (cntV l = #[.int .i64 (cn l 0), .int .i64 (cn l 1), .int .i64 (cn l 2), .int .i64 (cn l 3)]) := rfl
  clear hn h
  rw [HE.out]
  go_enter Try.func51, Try.ntmps51
  go_wp2_with fail
  go_loopw [7] (fun vk wr => ∃ k c0 c1 c2 c3 : Nat, k ≤ n ∧ vk = .int .i64 k ∧ Hid (c0 = cn (l.take k) 0 ∧ c1 = cn (l.take k) 1 ∧ c2 = cn (l.take k) 2 ∧ c3 = cn (l.take k) 3) ∧ (c0 : Int) ≤ k ∧ (c1 : Int) ≤ k ∧ (c2 : Int) ≤ k ∧ (c3 : Int) ≤ k ∧
      wr = w.alloc (.cells #[.int .i64 (c0 : Int), .int .i64 (c1 : Int), .int .i64 (c2 : Int), .int .i64 (c3 : Int)] 92)) (fun vk _ => n - (intOf vk).toNat)
  case atStart => exact ⟨0, 0, 0, 0, 0, by omega, rfl, ⟨rfl, rfl, rfl, rfl⟩, by omega, by omega, by omega, by omega, rfl⟩
  case round =>
    obtain ⟨k, c0, c1, c2, c3, hk, rfl, HC, i0, i1, i2, i3, rfl⟩ := hrel
    by_cases hkn : k < n
    · obtain ⟨b, off, rfl, hb, hc⟩ := H.out.at_ (i := k) (by have := HN.out; omega)
      have s0 := Lib.hid (cn_take_succ (l := l) (k := k) (v := 0) (by have := HN.out; omega))
      have s1 := Lib.hid (cn_take_succ (l := l) (k := k) (v := 1) (by have := HN.out; omega))
      have s2 := Lib.hid (cn_take_succ (l := l) (k := k) (v := 2) (by have := HN.out; omega))
      have s3 := Lib.hid (cn_take_succ (l := l) (k := k) (v := 3) (by have := HN.out; omega))
      have hx := bt_le l k
      generalize bt l k = x at *
      have hcase : x = 0 ∨ x = 1 ∨ x = 2 ∨ x = 3 ∨ 4 ≤ x := by omega
      rcases hcase with rfl | rfl | rfl | rfl | h3
      · go_wp2_with fail
        go_roundw
        case rel => exact ⟨k + 1, c0 + 1, c1, c2, c3, by omega, by go_num, by obtain ⟨a, b, c, d⟩ := HC.out; have := s0.out; have := s1.out; have := s2.out; have := s3.out; simp at *; exact ⟨by omega, by omega, by omega, by omega⟩, by omega, by omega, by omega, by omega, by congr 2⟩
        case measure => simp [intOf]; omega
      · go_wp2_with fail
        go_roundw
        case rel => exact ⟨k + 1, c0, c1 + 1, c2, c3, by omega, by go_num, by obtain ⟨a, b, c, d⟩ := HC.out; have := s0.out; have := s1.out; have := s2.out; have := s3.out; simp at *; exact ⟨by omega, by omega, by omega, by omega⟩, by omega, by omega, by omega, by omega, by congr 2⟩
        case measure => simp [intOf]; omega
      · go_wp2_with fail
        go_roundw
        case rel => exact ⟨k + 1, c0, c1, c2 + 1, c3, by omega, by go_num, by obtain ⟨a, b, c, d⟩ := HC.out; have := s0.out; have := s1.out; have := s2.out; have := s3.out; simp at *; exact ⟨by omega, by omega, by omega, by omega⟩, by omega, by omega, by omega, by omega, by congr 2⟩
        case measure => simp [intOf]; omega
      · go_wp2_with fail
        go_roundw
        case rel => exact ⟨k + 1, c0, c1, c2, c3 + 1, by omega, by go_num, by obtain ⟨a, b, c, d⟩ := HC.out; have := s0.out; have := s1.out; have := s2.out; have := s3.out; simp at *; exact ⟨by omega, by omega, by omega, by omega⟩, by omega, by omega, by omega, by omega, by congr 2⟩
        case measure => simp [intOf]; omega
      · have h4 : (4 : Int) ≤ x := by omega
        have hmin : min (x : Int) 3 = 3 := by omega
        have HM : Hid (min x 3 = 3) := by unfold Hid; omega
        rw [HM.out] at s0 s1 s2 s3
        clear h3
        go_wp2_with fail
        go_roundw
        case rel => exact ⟨k + 1, c0, c1, c2, c3 + 1, by omega, by go_num, by obtain ⟨a, b, c, d⟩ := HC.out; have := s0.out; have := s1.out; have := s2.out; have := s3.out; simp at *; exact ⟨by omega, by omega, by omega, by omega⟩, by omega, by omega, by omega, by omega, by congr 2⟩
        case measure => simp [intOf]; omega
    · have HT : Hid (l.take k = l) := List.take_of_length_le (by have := HN.out; omega)
      rw [HT.out] at HC
      go_wp2_with fail
      obtain ⟨e0, e1, e2, e3⟩ := HC.out
      subst e0 e1 e2 e3
      exact bodyPost_ret (v := .agg #[.int .i64 (cn l 0), .int .i64 (cn l 1), .int .i64 (cn l 2), .int .i64 (cn l 3)]) (by simp [results, Try.results51, go_sem]) rfl ⟨rfl, rfl⟩
end Go.Proofs.Ytenpkmgbaajeeaa
