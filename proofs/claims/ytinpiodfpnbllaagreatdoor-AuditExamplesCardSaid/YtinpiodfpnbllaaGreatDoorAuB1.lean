/-
  Lemmas and contracts, joined.
-/
import Derived.Deep.QuietTactic
import Derived.BigQuiet
import Derived.Lib.AppendZerosOnto
import Derived.Laws.BitsAllLaws
import Derived.Laws.BitsLemmas
import Derived.StillTailTactics
import Derived.RangeFuncNested
import Derived.RangeFuncBound
import Derived.RangeFuncCalls
import Derived.RangeFuncLeaves
import Derived.RangeFuncBox
import Derived.Shelf.Abstract
import Derived.Shelf.RegionOpen
import Derived.OwnWalkIn
import Derived.TacticsInMore
import Derived.LoopNIn
import Derived.LoopIn
import Derived.Deep.RegionHeld3
import Derived.SizedLaws
import Derived.Deep.Slices
import Derived.Laws.ResultCell
import Derived.Great.BuildSlice
import Derived.Laws.CopyOwn
import Derived.Test.YtinpiodfpnbllaaGreatDoorAuA1
import Derived.Test.YtinpiodfpnbllaaGreatDoorAu0
set_option linter.unusedSimpArgs false
set_option linter.unusedVariables false
set_option linter.unnecessarySimpa false
/- Symbols: words and copies, in the program and in the reference. -/
namespace Go.Proofs.YtinpiodfpnbllaaGreatDoor
open Go.RowKit
set_option linter.unusedVariables false

/-- All symbols are at most m. -/
def symB (l : List UInt8) (m : Nat) : Bool := l.all fun c => decide (c.toNat ≤ m)
theorem symB_iff {l : List UInt8} {m : Nat} : symB l m = true ↔ ∀ i, i < l.length → bt l i ≤ m := by
  unfold symB
  rw [List.all_eq_true]
  constructor
  · intro h i hi
    rw [bt_in hi]
    simpa using h _ (List.getElem_mem hi)
  · intro h c hc
    obtain ⟨i, hi, rfl⟩ := List.getElem_of_mem hc
    have := h i hi
    rw [bt_in hi] at this
    simpa using this
theorem symB_no {l : List UInt8} {m i : Nat} (hi : i < l.length) (h : m < bt l i) : symB l m = false := by
  cases hs : symB l m
  · rfl
  · have := symB_iff.1 hs i hi
    omega
/-- A word, a copy of n places. -/
def wordB (l : List UInt8) (n : Nat) : Bool := decide (l.length = n) && symB l 1
def copyB (l : List UInt8) (n : Nat) : Bool := decide (l.length = n) && symB l 2

theorem ret_int' {k : IntKind} {a b : Int} (h : a = b) : Ending.returned (.int k a) = .returned (.int k b) := by rw [h]
theorem ret_bool' {a b : Bool} (h : a = b) : Ending.returned (.bool a) = .returned (.bool b) := by rw [h]
theorem int_le_of' {a b : Nat} (h : a ≤ b) : (a : Int) ≤ b := by omega

set_option maxHeartbeats 400000 in
theorem symbols_any (A : Option Addr) (c : Nat) (l : List UInt8) (m : Nat) (w : World) {n : Nat} (hn : l.length = n) (h : BR w A c l) (hm : m ≤ 255) :
    Calls Tryz.prog 88 #[.slice A n c, .int .u8 (m : Int)] w fun e w' => e = .returned (.bool (symB l m)) ∧ w = w' := by
  have hlen : (n : Int) ≤ 140737488351232 := by have := h.len; omega
  have HN := Lib.hid hn
  have H := Lib.hid h
  clear hn h
  go_enter Tryz.func88, Tryz.ntmps88
  go_wp2_with fail
  go_loop [5] (fun vk => ∃ k : Nat, k ≤ n ∧ vk = .int .i64 k ∧ Hid (∀ j, j < k → bt l j ≤ m)) (fun vk => n - (intOf vk).toNat)
  case atStart => exact ⟨0, by omega, rfl, fun j hj => absurd hj (by omega)⟩
  case round =>
    obtain ⟨k, hk, rfl, HK⟩ := hrel
    by_cases hkn : k < n
    · obtain ⟨b, off, rfl, hb, hc⟩ := H.out.at_ (i := k) (by have := HN.out; omega)
      have hx := bt_le l k
      by_cases hle : bt l k ≤ m
      · have HK2 : Hid (∀ j, j < k + 1 → bt l j ≤ m) := fun j hj => by
          rcases Nat.lt_or_ge j k with h' | h'
          · exact HK.out j h'
          · rw [show j = k from by omega]; exact hle
        have t1 : decide ((m : Int) < (bt l k : Int)) = false := by simp; omega
        have t1' : decide (m < bt l k) = false := by simp; omega
        clear hle
        go_wp2_with fail
        go_round
        case rel => exact ⟨k + 1, by omega, by go_num, HK2⟩
        case measure => simp [intOf]; omega
      · have HF : Hid (symB l m = false) := symB_no (i := k) (by have := HN.out; omega) (by omega)
        have t1 : decide ((m : Int) < (bt l k : Int)) = true := by simp; omega
        have t1' : decide (m < bt l k) = true := by simp; omega
        clear hle
        go_wp2_with fail
        go_ret
        exact ⟨ret_bool' HF.out.symm, rfl⟩
    · have HT : Hid (symB l m = true) := symB_iff.2 fun i hi => HK.out i (by have := HN.out; omega)
      go_wp2_with fail
      go_ret
      exact ⟨ret_bool' HT.out.symm, rfl⟩

set_option maxHeartbeats 400000 in
theorem refIsWord_any (A : Option Addr) (c : Nat) (l : List UInt8) (m : Nat) (w : World) {n : Nat} (hn : l.length = n) (h : BR w A c l) (hm : m ≤ 140737488351232) :
    Calls Tryz.prog 35 #[.slice A n c, .int .i64 (m : Int)] w fun e w' => e = .returned (.bool (wordB l m)) ∧ w = w' := by
  have hlen : (n : Int) ≤ 140737488351232 := by have := h.len; omega
  have HN := Lib.hid hn
  have H := Lib.hid h
  by_cases e : n = m
  · have HS : Hid (wordB l m = symB l 1) := by unfold Hid wordB; rw [hn, e]; simp
    have t1 : ((n : Int) == (m : Int)) = true := by simp; omega
    have t2 : (n == m) = true := by simp; omega
    clear hn h e
    go_enter Tryz.func35, Tryz.ntmps35
    go_wp2_with (go_at_call 88; refine (symbols_any A c l 1 _ HN.out H.out (by omega)).mono ?_; rintro e w' ⟨rfl, rfl⟩)
    go_ret
    exact ⟨ret_bool' HS.out.symm, rfl⟩
  · have HS : Hid (wordB l m = false) := by unfold Hid wordB; rw [hn]; simp [e]
    have t1 : ((n : Int) == (m : Int)) = false := by simp; omega
    have t2 : (n == m) = false := by simp; omega
    clear hn h e
    go_enter Tryz.func35, Tryz.ntmps35
    go_wp2_with fail
    go_ret
    exact ⟨ret_bool' HS.out.symm, rfl⟩
set_option maxHeartbeats 400000 in
theorem refIsCopy_any (A : Option Addr) (c : Nat) (l : List UInt8) (m : Nat) (w : World) {n : Nat} (hn : l.length = n) (h : BR w A c l) (hm : m ≤ 140737488351232) :
    Calls Tryz.prog 34 #[.slice A n c, .int .i64 (m : Int)] w fun e w' => e = .returned (.bool (copyB l m)) ∧ w = w' := by
  have hlen : (n : Int) ≤ 140737488351232 := by have := h.len; omega
  have HN := Lib.hid hn
  have H := Lib.hid h
  by_cases e : n = m
  · have HS : Hid (copyB l m = symB l 2) := by unfold Hid copyB; rw [hn, e]; simp
    have t1 : ((n : Int) == (m : Int)) = true := by simp; omega
    have t2 : (n == m) = true := by simp; omega
    clear hn h e
    go_enter Tryz.func34, Tryz.ntmps34
    go_wp2_with (go_at_call 88; refine (symbols_any A c l 2 _ HN.out H.out (by omega)).mono ?_; rintro e w' ⟨rfl, rfl⟩)
    go_ret
    exact ⟨ret_bool' HS.out.symm, rfl⟩
  · have HS : Hid (copyB l m = false) := by unfold Hid copyB; rw [hn]; simp [e]
    have t1 : ((n : Int) == (m : Int)) = false := by simp; omega
    have t2 : (n == m) = false := by simp; omega
    clear hn h e
    go_enter Tryz.func34, Tryz.ntmps34
    go_wp2_with fail
    go_ret
    exact ⟨ret_bool' HS.out.symm, rfl⟩

/-- How many symbols are v, where whatever is above 2 counts as 3. -/
def cn (l : List UInt8) (v : Nat) : Nat := l.countP fun c => decide (min c.toNat 3 = v)
def cntV (l : List UInt8) : Array Value := #[.int .i64 (cn l 0), .int .i64 (cn l 1), .int .i64 (cn l 2), .int .i64 (cn l 3)]
theorem cn_cons (a : UInt8) (l : List UInt8) (v : Nat) : cn (a :: l) v = cn l v + if min a.toNat 3 = v then 1 else 0 := by simp [cn, List.countP_cons]
theorem cn_snoc (a : UInt8) (l : List UInt8) (v : Nat) : cn (l ++ [a]) v = cn l v + if min a.toNat 3 = v then 1 else 0 := by simp [cn, List.countP_append, List.countP_cons]
theorem cn_sum (l : List UInt8) : cn l 0 + cn l 1 + cn l 2 + cn l 3 = l.length := by
  induction l with
  | nil => rfl
  | cons a l ih =>
    rw [cn_cons, cn_cons, cn_cons, cn_cons, List.length_cons]
    have h : min a.toNat 3 = 0 ∨ min a.toNat 3 = 1 ∨ min a.toNat 3 = 2 ∨ min a.toNat 3 = 3 := by omega
    rcases h with h | h | h | h <;> rw [h] <;> simp <;> omega
theorem cn_take_succ {l : List UInt8} {k v : Nat} (h : k < l.length) : cn (l.take (k + 1)) v = cn (l.take k) v + if min (bt l k) 3 = v then 1 else 0 := by
  rw [List.take_succ_eq_append_getElem h, bt_in h, cn_snoc]
theorem cn_le (l : List UInt8) (v : Nat) : cn l v ≤ l.length := List.countP_le_length
theorem word_cn (l : List UInt8) (n : Nat) : wordB l n = true ↔ cn l 1 + cn l 0 = n ∧ cn l 2 = 0 ∧ cn l 3 = 0 := by
  unfold wordB symB
  have hs := cn_sum l
  have h23 : l.all (fun c => decide (c.toNat ≤ 1)) = true ↔ cn l 2 = 0 ∧ cn l 3 = 0 := by
    simp only [cn, List.countP_eq_zero, List.all_eq_true, decide_eq_true_eq]
    constructor
    · intro h; exact ⟨fun a ha => by have := h a ha; omega, fun a ha => by have := h a ha; omega⟩
    · rintro ⟨h1, h2⟩ a ha; have := h1 a ha; have := h2 a ha; omega
  rw [Bool.and_eq_true, h23, decide_eq_true_eq]
  omega
theorem copy_cn (l : List UInt8) (n : Nat) : copyB l n = true ↔ l.length = n ∧ cn l 3 = 0 := by
  unfold copyB symB
  have h3 : l.all (fun c => decide (c.toNat ≤ 2)) = true ↔ cn l 3 = 0 := by
    simp only [cn, List.countP_eq_zero, List.all_eq_true, decide_eq_true_eq]
    constructor
    · intro h a ha; have := h a ha; omega
    · intro h1 a ha; have := h1 a ha; omega
  rw [Bool.and_eq_true, h3, decide_eq_true_eq]

theorem cnt_cong {a b c d a' b' c' d' : Nat} (h1 : a = a') (h2 : b = b') (h3 : c = c') (h4 : d = d') : (#[.int .i64 (a : Int), .int .i64 (b : Int), .int .i64 (c : Int), .int .i64 (d : Int)] : Array Value) = #[.int .i64 (a' : Int), .int .i64 (b' : Int), .int .i64 (c' : Int), .int .i64 (d' : Int)] := by
  rw [h1, h2, h3, h4]
end Go.Proofs.YtinpiodfpnbllaaGreatDoor

/- Halves and copies: the program's and the reference's. -/
namespace Go.Proofs.YtinpiodfpnbllaaGreatDoor
open Go.RowKit
set_option linter.unusedVariables false
set_option linter.unusedSimpArgs false

/-- The greatest of the first k symbols. -/
def mxB (l : List UInt8) (k : Nat) : Nat := (l.take k).foldl (fun a c => max a c.toNat) 0
theorem mxB_succ {l : List UInt8} {k : Nat} (h : k < l.length) : mxB l (k + 1) = max (mxB l k) (bt l k) := by
  unfold mxB
  rw [List.take_succ_eq_append_getElem h, List.foldl_append, bt_in h]; rfl
theorem mxB_le {l : List UInt8} {k m : Nat} (h : k ≤ l.length) : mxB l k ≤ m ↔ ∀ i, i < k → bt l i ≤ m := by
  induction k with
  | zero => simp [mxB]
  | succ k ih =>
    rw [mxB_succ (by omega)]
    have := ih (by omega)
    constructor
    · intro hm i hi
      rcases Nat.lt_or_ge i k with h' | h'
      · exact this.1 (by omega) i h'
      · rw [show i = k from by omega]; omega
    · intro hm
      have h1 := this.2 fun i hi => hm i (by omega)
      have h2 := hm k (by omega)
      omega
theorem mxB_255 {l : List UInt8} {k : Nat} (h : k ≤ l.length) : mxB l k ≤ 255 := (mxB_le h).2 fun i _ => by have := bt_lt l i; omega
/-- From 1 to 64 symbols, all of them at most m. -/
def halfB (l : List UInt8) (m : Nat) : Bool := decide (1 ≤ l.length ∧ l.length ≤ 64) && symB l m
theorem halfB_iff {l : List UInt8} {m : Nat} : halfB l m = true ↔ (1 ≤ l.length ∧ l.length ≤ 64) ∧ symB l m = true := by simp [halfB]

set_option maxHeartbeats 2000000 in
theorem max_any (A : Option Addr) (c : Nat) (l : List UInt8) (w : World) {n : Nat} (hn : l.length = n) (h0 : 1 ≤ n) (h : BR w A c l) :
    Calls Tryz.prog 120 #[.slice A n c] w fun e w' => e = .returned (.int .u8 (mxB l n : Int)) ∧ w = w' := by
  have hlen : (n : Int) ≤ 140737488351232 := by have := h.len; omega
  have h0i : (1 : Int) ≤ n := by omega
  have HN := Lib.hid hn
  have H := Lib.hid h
  obtain ⟨b, off, hA, hb, hc0⟩ := h.at_ (i := 0) (by omega)
  subst hA
  have HB : Hid (∀ i, i < n → w.cell? ⟨b, off + i, none⟩ = some (.int .u8 (bt l i : Int))) := fun i hi => by
    obtain ⟨b', off', e, _, hc⟩ := H.out.at_ (i := i) (by have := HN.out; omega)
    injection e with e
    injection e with e1 e2
    subst e1 e2
    exact hc
  have c0 : w.cell? ⟨b, off, none⟩ = some (.int .u8 (bt l 0 : Int)) := hc0
  have H1 : Hid (mxB l 1 = bt l 0) := by unfold Hid; rw [mxB_succ (by omega)]; simp [mxB]
  clear hn h hc0
  go_enter Tryz.func120, Tryz.ntmps120
  go_wp2_with fail
  go_loop [3, 4] (fun vm vk => ∃ (k M : Nat), 1 ≤ k ∧ k ≤ n ∧ vk = .int .i64 (k : Int) ∧ vm = .int .u8 (M : Int) ∧ Hid (mxB l k = M)) (fun _ vk => n - (intOf vk).toNat)
  case atStart => exact ⟨1, bt l 0, by omega, h0, rfl, rfl, H1.out⟩
  case round =>
    obtain ⟨k, M, hk1, hk, rfl, rfl, HM⟩ := hrel
    by_cases hkn : k < n
    · have hc := HB.out k hkn
      have hki : (k : Int) < n := by omega
      have HM2 : Hid (mxB l (k + 1) = max M (bt l k)) := by unfold Hid; rw [mxB_succ (by have := HN.out; omega), HM.out]
      obtain ⟨x, hx⟩ : ∃ x, bt l k = x := ⟨_, rfl⟩
      rw [hx] at hc HM2
      clear hx
      go_wp2_with fail
      go_round
      case rel => exact ⟨k + 1, max M x, by omega, by omega, by go_num, by first | rfl | (congr 1; omega), HM2.out⟩
      case measure => simp [intOf]; omega
    · obtain rfl : k = n := by omega
      have hki : (k : Int) ≤ k := Int.le_refl _
      go_wp2_with fail
      go_ret
      exact ⟨by rw [HM.out]; rfl, rfl⟩

set_option maxHeartbeats 2000000 in
theorem auditSyms_any (A : Option Addr) (c : Nat) (l : List UInt8) (m : Nat) (w : World) {n : Nat} (hn : l.length = n) (h : BR w A c l) (hm : m ≤ 255) :
    Calls Tryz.prog 61 #[.slice A n c, .int .u8 (m : Int)] w fun e w' => e = .returned (.bool (halfB l m)) ∧ w = w' := by
  have hlen : (n : Int) ≤ 140737488351232 := by have := h.len; omega
  rcases (by omega : n < 1 ∨ 64 < n ∨ (1 ≤ n ∧ n ≤ 64)) with h1 | h1 | ⟨h1, h2⟩
  · have HF : Hid (halfB l m = false) := by unfold Hid halfB; rw [hn, decide_eq_false (by omega)]; rfl
    have s0 : decide ((1 : Int) ≤ (n : Int)) = false := decide_eq_false (by omega)
    have s1 : decide (1 ≤ n) = false := decide_eq_false (by omega)
    clear hn h h1
    go_enter Tryz.func61, Tryz.ntmps61
    go_wp2_with fail
    go_ret
    exact ⟨by rw [HF.out]; rfl, rfl⟩
  · have HF : Hid (halfB l m = false) := by unfold Hid halfB; rw [hn, decide_eq_false (by omega)]; rfl
    have s0 : decide ((1 : Int) ≤ (n : Int)) = true := decide_eq_true (by omega)
    have s1 : decide (1 ≤ n) = true := decide_eq_true (by omega)
    have s2 : decide ((n : Int) ≤ 64) = false := decide_eq_false (by omega)
    have s3 : decide (n ≤ 64) = false := decide_eq_false (by omega)
    clear hn h h1
    go_enter Tryz.func61, Tryz.ntmps61
    go_wp2_with fail
    go_ret
    exact ⟨by rw [HF.out]; rfl, rfl⟩
  · have HF : Hid (halfB l m = symB l m) := by unfold Hid halfB; rw [hn, decide_eq_true ⟨h1, h2⟩]; rfl
    have s0 : decide ((1 : Int) ≤ (n : Int)) = true := decide_eq_true (by omega)
    have s1 : decide (1 ≤ n) = true := decide_eq_true (by omega)
    have s2 : decide ((n : Int) ≤ 64) = true := decide_eq_true (by omega)
    have s3 : decide (n ≤ 64) = true := decide_eq_true (by omega)
    have HX := Lib.hid (max_any A c l w hn h1 h)
    have HS : Hid (decide ((mxB l n : Int) ≤ (m : Int)) = symB l m) := by
      unfold Hid
      have e := mxB_le (l := l) (k := n) (m := m) (by omega)
      rw [← hn, ← symB_iff, hn] at e
      cases hs : symB l m with
      | true => exact decide_eq_true (by have := e.2 hs; omega)
      | false => exact decide_eq_false (fun hle => by have := e.1 (by omega); rw [hs] at this; cases this)
    have hx := mxB_255 (l := l) (k := n) (by omega)
    obtain ⟨M, hM⟩ : ∃ M, mxB l n = M := ⟨_, rfl⟩
    rw [hM] at HX HS hx
    have hmi : (m : Int) ≤ 255 := by omega
    have hxi : (M : Int) ≤ 255 := by omega
    clear hn h h1 h2 hM
    cases hs : symB l m with
    | true =>
      rw [hs] at HS HF
      have t0 := HS.out
      have t1 : decide (M ≤ m) = true := decide_eq_true (by have := of_decide_eq_true HS.out; omega)
      clear hs
      go_enter Tryz.func61, Tryz.ntmps61
      go_wp2_with (go_at_call 120; refine HX.out.mono ?_; rintro e w' ⟨rfl, rfl⟩)
      go_ret
      exact ⟨by rw [HF.out]; rfl, rfl⟩
    | false =>
      rw [hs] at HS HF
      have t0 := HS.out
      have t1 : decide (M ≤ m) = false := decide_eq_false (by have := of_decide_eq_false HS.out; omega)
      clear hs
      go_enter Tryz.func61, Tryz.ntmps61
      go_wp2_with (go_at_call 120; refine HX.out.mono ?_; rintro e w' ⟨rfl, rfl⟩)
      go_ret
      exact ⟨by rw [HF.out]; rfl, rfl⟩

set_option maxHeartbeats 2000000 in
theorem isHalf_any (A : Option Addr) (c : Nat) (l : List UInt8) (w : World) {n : Nat} (hn : l.length = n) (h : BR w A c l) :
    Calls Tryz.prog 33 #[.slice A n c] w fun e w' => e = .returned (.bool (halfB l 1)) ∧ w = w' := by
  have hlen : (n : Int) ≤ 140737488351232 := by have := h.len; omega
  rcases (by omega : n < 1 ∨ 64 < n ∨ (1 ≤ n ∧ n ≤ 64)) with h1 | h1 | ⟨h1, h2⟩
  · have HF : Hid (halfB l 1 = false) := by unfold Hid halfB; rw [hn, decide_eq_false (by omega)]; rfl
    have s0 : decide ((1 : Int) ≤ (n : Int)) = false := decide_eq_false (by omega)
    have s1 : decide (1 ≤ n) = false := decide_eq_false (by omega)
    clear hn h h1
    go_enter Tryz.func33, Tryz.ntmps33
    go_wp2_with fail
    go_ret
    exact ⟨by rw [HF.out]; rfl, rfl⟩
  · have HF : Hid (halfB l 1 = false) := by unfold Hid halfB; rw [hn, decide_eq_false (by omega)]; rfl
    have s0 : decide ((1 : Int) ≤ (n : Int)) = true := decide_eq_true (by omega)
    have s1 : decide (1 ≤ n) = true := decide_eq_true (by omega)
    have s2 : decide ((n : Int) ≤ 64) = false := decide_eq_false (by omega)
    have s3 : decide (n ≤ 64) = false := decide_eq_false (by omega)
    clear hn h h1
    go_enter Tryz.func33, Tryz.ntmps33
    go_wp2_with fail
    go_ret
    exact ⟨by rw [HF.out]; rfl, rfl⟩
  · have HF : Hid (halfB l 1 = wordB l n) := by unfold Hid halfB wordB; rw [hn, decide_eq_true ⟨h1, h2⟩]; simp
    have s0 : decide ((1 : Int) ≤ (n : Int)) = true := decide_eq_true (by omega)
    have s1 : decide (1 ≤ n) = true := decide_eq_true (by omega)
    have s2 : decide ((n : Int) ≤ 64) = true := decide_eq_true (by omega)
    have s3 : decide (n ≤ 64) = true := decide_eq_true (by omega)
    have HX := Lib.hid (refIsWord_any A c l n w hn h (by omega))
    generalize wordB l n = v at HX HF
    clear hn h h1 h2
    go_enter Tryz.func33, Tryz.ntmps33
    go_wp2_with (go_at_call 35; refine HX.out.mono ?_; rintro e w' ⟨rfl, rfl⟩)
    go_ret
    exact ⟨by rw [HF.out]; rfl, rfl⟩
end Go.Proofs.YtinpiodfpnbllaaGreatDoor

/- slices.Concat at bytes. -/
namespace Go.Proofs.YtinpiodfpnbllaaGreatDoor
open Go.RowKit
set_option linter.unusedVariables false

theorem wpList_grow (w : World) {ops : Array Oper} {rest : List Oper} {o : Oper} {a : Act} {Q : Exit → Act → World → Prop} (hgd : o.guard = none) (s x : Operand)
    (ho : o.op = .call { callee := .builtin .append, args := #[s, x], argTypes := #[22, 3] }) (k : Nat) (hs : a.eval s = .slice none 0 0) (hx : a.eval x = .int .i64 (k : Int)) (h0 : 0 < k) (hk : k ≤ 1000000)
    (h : ∀ c w', OB w.heap.size w' (some ⟨w.heap.size, 0, none⟩) c [] → k ≤ c → c ≤ 9223372036854775807 → Below w.heap.size w w' → wpList Tryz.prog ops Q rest (a.put o.dst (.slice (some ⟨w.heap.size, 0, none⟩) k c)) w') : wpList Tryz.prog ops Q (o :: rest) a w := by
  obtain ⟨i0, hi, hz0, hz1, hz2⟩ := info_parts u8_info'
  have hfit : Builtin.nextslicecap (0 + k) 0 * i0.bytes ≤ 281474976710656 := by
    rw [hz2]
    unfold Builtin.nextslicecap
    simp only [Nat.zero_add]
    split <;> simp <;> omega
  have hrun := Lib.run_append_grow_zeros (P := Tryz.prog) w 22 3 o.type 5 i0 (.int .u8 0) .i64 .i64 Tryz.underlying22 Tryz.underlying3 hi hz0 none 0 0 [] (by simp [Builtin.firstCells]) k h0 (by rw [hz1]; omega) (by omega) (by omega) (by rw [hz2]; omega) hfit
  refine wpList_plain hgd fun K hK => ?_
  rw [Nat.zero_add] at hrun
  have hge := grownCap_ge w k 0 5
  have hle := grownCap_le_maxLen w k 0 5 (by simp only [maxLen]; omega)
  have ho1 : OB w.heap.size (w.drew.alloc (.cells (([] : List Value).toArray ++ Builtin.zeroCells (Value.int .u8 0).cells k ++ Builtin.zeroCells (Value.int .u8 0).cells (grownCap w k 0 5 - k)) 5)) (some ⟨w.heap.size, 0, none⟩) (grownCap w k 0 5) [] :=
    ⟨rfl, .inr ⟨w.heap.size, _, _, rfl, Nat.le_refl _, heap_alloc_new w.drew _, Nat.zero_le _, hle, by simp [size_zeroCells, Value.cells]; omega, by simp [cellsB]⟩⟩
  have hb1 : Below w.heap.size w (w.drew.alloc (.cells (([] : List Value).toArray ++ Builtin.zeroCells (Value.int .u8 0).cells k ++ Builtin.zeroCells (Value.int .u8 0).cells (grownCap w k 0 5 - k)) 5)) := (Below.refl _ w).drew.alloc (Nat.le_refl _) _
  unfold Oper.wp
  simp only [execOp, ho, resolve, invoke, builtin, Sem.run_bind, Sem.run_pure, Result.andThen_ok, List.map_toArray, List.map_cons, List.map_nil, hs, hx, hrun]
  exact hK _ _ (h _ _ ho1 hge (by simpa [maxLen] using hle) hb1)

set_option maxHeartbeats 1000000 in
theorem Grow_any (n : Nat) (w : World) (h0 : 0 < n) (hn : n ≤ 1000000) : Calls Tryz.prog 158 #[.slice none 0 0, .int .i64 (n : Int)] w fun e w' => (∃ A c, e = .returned (.slice A 0 c) ∧ OB w.heap.size w' A c []) ∧ Below w.heap.size w w' := by
  have hni : (n : Int) ≤ 1000000 := by omega
  have h0i : (0 : Int) < (n : Int) := by omega
  go_enter Tryz.func158, Tryz.ntmps158
  go_wp2_with (at_builtin; refine wpList_grow _ rfl (.tmp 20) (.tmp 21) rfl n rfl rfl h0 hn ?_; intro c1 w1 ho1 hc1 hc2 hb1; have HO1 := Lib.hid ho1; clear ho1)
  go_ret
  exact ⟨⟨_, c1, rfl, HO1.out⟩, hb1⟩

/-- The first i rows, one behind the other. -/
def catL (rs : List BRow) (i : Nat) : List UInt8 := (rs.take i).flatMap BRow.l
theorem catL_succ {rs : List BRow} {i : Nat} {r : BRow} (h : rs[i]? = some r) : catL rs (i + 1) = catL rs i ++ r.l := by
  obtain ⟨hi, he⟩ := List.getElem?_eq_some_iff.1 h
  rw [catL, List.take_succ_eq_append_getElem hi, List.flatMap_append, he]
  simp [catL]
theorem catL_le (rs : List BRow) {i n : Nat} (h : i ≤ n) : (catL rs i).length ≤ (catL rs n).length := by
  have e : (rs.take n).take i = rs.take i := by rw [List.take_take, Nat.min_eq_left h]
  have this := (List.take_append_drop i (rs.take n)).symm
  rw [e] at this
  rw [catL, catL, this, List.flatMap_append, List.length_append]
  omega
theorem RR.cellAt {w : World} {A : Option Addr} {c : Nat} {rs : List BRow} (h : RR w A c rs) {i : Nat} (hi : i < rs.length) :
    ∃ b off r, A = some ⟨b, off, none⟩ ∧ b < w.heap.size ∧ rs[i]? = some r ∧ w.cell? ⟨b, off + i, none⟩ = some (.slice r.A r.l.length r.c) ∧ BR w r.A r.c r.l := by
  obtain ⟨b, off, e, hb, v, hv, hc⟩ := Rd.at1 h.1 hi
  have hr : rs[i]? = some rs[i] := List.getElem?_eq_getElem hi
  rw [List.getElem?_map, hr] at hv
  injection hv with hv
  subst hv
  exact ⟨b, off, rs[i], e, hb, hr, hc, h.2 _ (List.getElem_mem hi)⟩
theorem RR.on {w w' : World} {A : Option Addr} {c : Nat} {rs : List BRow} (h : RR w A c rs) (hb : Below w.heap.size w w') : RR w' A c rs := ⟨h.1.below hb, fun r hr => (h.2 r hr).below hb⟩

set_option maxHeartbeats 1000000 in
set_option maxRecDepth 100000 in
theorem Concat_any (A : Option Addr) (c : Nat) (rs : List BRow) (w : World) {n N : Nat} (hn : rs.length = n) (h : RR w A c rs) (hN : (catL rs n).length = N) (h0 : 0 < N) (hb : N ≤ 1000000) :
    Calls Tryz.prog 122 #[.slice A n c] w fun e w' => (∃ A' c', e = .returned (.slice A' N c') ∧ OB w.heap.size w' A' c' (catL rs n)) ∧ Below w.heap.size w w' := by
  have HN := Lib.hid hn
  have HNN := Lib.hid hN
  have H := Lib.hid h
  have hni : (N : Int) ≤ 1000000 := by omega
  have hnl : (n : Int) ≤ 140737488351232 := by have := h.1.len; omega
  have HGR : Hid (∀ W, Calls Tryz.prog 158 #[.slice none 0 0, .int .i64 (N : Int)] W fun e w' => (∃ A c, e = .returned (.slice A 0 c) ∧ OB W.heap.size w' A c []) ∧ Below W.heap.size W w') := fun W => Grow_any N W h0 hb
  clear hn hN h
  go_enter Tryz.func122, Tryz.ntmps122
  go_wp2_with fail
  go_loop [3, 11] (fun vs vi => ∃ (i m : Nat), i ≤ n ∧ vi = .int .i64 (i : Int) ∧ vs = .int .i64 (m : Int) ∧ Hid ((catL rs i).length = m)) (fun _ vi => n - (intOf vi).toNat)
  case atStart => exact ⟨0, 0, by omega, rfl, rfl, rfl⟩
  case round =>
    obtain ⟨i, m, hi, rfl, rfl, HM⟩ := hrel
    have hmN : m ≤ N := by have h1 := catL_le rs hi; rw [HM.out, HNN.out] at h1; exact h1
    have hmi : (m : Int) ≤ 1000000 := by omega
    by_cases hlt : i < n
    · have hii : (i : Int) < n := by omega
      obtain ⟨b, off, r, rfl, hbb, hr, hc, hR⟩ := H.out.cellAt (i := i) (by have := HN.out; omega)
      have HCS := Lib.hid (catL_succ hr)
      have hm2 : m + r.l.length ≤ N := by have h1 := catL_le rs (show i + 1 ≤ n from hlt); rw [HCS.out, List.length_append, HM.out, HNN.out] at h1; exact h1
      obtain ⟨RA, rc, rl⟩ := r
      dsimp only at hc hm2 HCS
      obtain ⟨rn, hrn⟩ : ∃ rn, rl.length = rn := ⟨_, rfl⟩
      rw [hrn] at hc hm2
      have HRN := Lib.hid hrn
      have hm2i : (m : Int) + (rn : Int) ≤ 1000000 := by omega
      clear hr hR hrn
      go_wp2_with fail
      go_round
      case rel => exact ⟨i + 1, m + rn, by omega, by go_num, by go_num, by unfold Hid; rw [HCS.out, List.length_append, HM.out, HRN.out]⟩
      case measure => simp [intOf]; omega
    · obtain rfl : i = n := by omega
      obtain rfl : m = N := by rw [← HM.out, HNN.out]
      have hii : (i : Int) ≤ i := Int.le_refl _
      go_wp2_with (go_at_call 158; refine (HGR.out _).mono ?_; rintro e w1 ⟨⟨A1, c1, rfl, ho1⟩, hb1⟩; have HO1 := Lib.hid ho1; clear ho1)
      go_loopw [6, 27] (fun vo vi wr => ∃ (j q : Nat) (A' : Option Addr) (c' : Nat), j ≤ i ∧ vi = .int .i64 (j : Int) ∧ vo = .slice A' q c' ∧ Hid ((catL rs j).length = q) ∧ Hid (OB w.heap.size wr A' c' (catL rs j)) ∧ Below w.heap.size w wr) (fun _ vi _ => i - (intOf vi).toNat)
      case atStart => exact ⟨0, 0, A1, c1, by omega, rfl, rfl, rfl, HO1.out, hb1⟩
      case round =>
        obtain ⟨j, q, A', c', hj, rfl, rfl, HQ, HO, hbel⟩ := hrel
        by_cases hlt2 : j < i
        · have hji : (j : Int) < i := by omega
          obtain ⟨b, off, r, rfl, hbb, hr, hc, hR⟩ := (H.out.on hbel).cellAt (i := j) (by have := HN.out; omega)
          have HCS := Lib.hid (catL_succ hr)
          have hm2 : q + r.l.length ≤ m := by have h1 := catL_le rs (show j + 1 ≤ i from hlt2); rw [HCS.out, List.length_append, HQ.out, HNN.out] at h1; exact h1
          obtain ⟨RA, rc, rl⟩ := r
          dsimp only at hc hm2 HCS hR
          obtain ⟨rn, hrn⟩ : ∃ rn, rl.length = rn := ⟨_, rfl⟩
          rw [hrn] at hc hm2
          have HRN := Lib.hid hrn
          have HR := Lib.hid hR
          clear hr hR hrn
          go_wp2_with (at_builtin; refine wpList_append_bytes _ rfl (.tmp 31) (.tmp 32) rfl w.heap.size A' q c' (catL rs j) HQ.out rfl HO.out RA rn rc rl HRN.out rfl (HR.out.src HRN.out) (by omega) hbel.size ?_; intro A5 c5 w5 hon5 hbl5 hg5; have HON5 := Lib.hid hon5; have b5 := hbel.trans hbl5; clear hon5 hg5 hbl5)
          go_roundw
          case rel => exact ⟨j + 1, q + rn, A5, c5, by omega, by go_num, rfl, by unfold Hid; rw [HCS.out, List.length_append, HQ.out, HRN.out], by rw [HCS.out]; exact HON5.out, b5⟩
          case measure => simp [intOf]; omega
        · obtain rfl : j = i := by omega
          obtain rfl : q = m := by rw [← HQ.out, HNN.out]
          go_wp2_with fail
          go_ret
          exact ⟨⟨A', c', rfl, HO.out⟩, hbel⟩
end Go.Proofs.YtinpiodfpnbllaaGreatDoor

/- Words of 64 bits: how the walk spells their operations; rotations, as the program and the reference make them. -/
namespace Go.Proofs.YtinpiodfpnbllaaGreatDoor
open Go.RowKit
set_option linter.unusedVariables false

theorem wrap_u64_nat (n : Nat) : IntKind.u64.wrap (n : Int) = ((n % 18446744073709551616 : Nat) : Int) := by
  rw [IntKind.wrap_u64]; omega
theorem u64_bd (x : UInt64) : (x.toNat : Int) ≤ 18446744073709551615 := by have := x.toNat_lt; omega
theorem u64_wrap (x : UInt64) : IntKind.u64.wrap (x.toNat : Int) = (x.toNat : Int) := by
  rw [wrap_u64_nat]; have := x.toNat_lt; omega
theorem u64_add (a b : UInt64) : IntKind.u64.wrap ((a.toNat : Int) + (b.toNat : Int)) = ((a + b).toNat : Int) := by
  rw [show (a.toNat : Int) + b.toNat = ((a.toNat + b.toNat : Nat) : Int) from by omega, wrap_u64_nat, UInt64.toNat_add]
theorem u64_addm (a b : UInt64) : ((a.toNat : Int) + (b.toNat : Int)) % 18446744073709551616 = ((a + b).toNat : Int) := by
  rw [UInt64.toNat_add]; omega
theorem u64_sub (a b : UInt64) : IntKind.u64.wrap ((a.toNat : Int) - (b.toNat : Int)) = ((a - b).toNat : Int) := by
  have h1 := a.toNat_lt
  have h2 := b.toNat_lt
  rw [IntKind.wrap_u64, UInt64.toNat_sub]
  omega
theorem u64_mul256 (a : UInt64) : IntKind.u64.wrap (256 * (a.toNat : Int)) = ((256 * a).toNat : Int) := by
  rw [show 256 * (a.toNat : Int) = ((256 * a.toNat : Nat) : Int) from by omega, wrap_u64_nat, UInt64.toNat_mul]
  rfl
theorem u64_or (a b : UInt64) : bits .or .u64 (a.toNat : Int) (b.toNat : Int) = ((a ||| b).toNat : Int) := by
  rw [u64_or_nat _ _ a.toNat_lt b.toNat_lt, UInt64.toNat_or]
theorem u64_xor (a b : UInt64) : bits .xor .u64 (a.toNat : Int) (b.toNat : Int) = ((a ^^^ b).toNat : Int) := by
  rw [u64_xor_nat _ _ a.toNat_lt b.toNat_lt, UInt64.toNat_xor]
theorem u64_shl (x : UInt64) (k : Nat) (hk : k < 64) : IntKind.u64.wrap ((x.toNat : Int) * (2 ^ k : Nat)) = ((x <<< UInt64.ofNat k).toNat : Int) := by
  rw [show (x.toNat : Int) * (2 ^ k : Nat) = ((x.toNat * 2 ^ k : Nat) : Int) from (Int.natCast_mul _ _).symm, wrap_u64_nat, UInt64.toNat_shiftLeft, Nat.shiftLeft_eq]
  simp [UInt64.toNat_ofNat', Nat.mod_eq_of_lt (show k < 18446744073709551616 by omega), Nat.mod_eq_of_lt hk]
theorem u64_shr (x : UInt64) (k : Nat) (hk : k < 64) : (x.toNat : Int) / (2 ^ k : Nat) = ((x >>> UInt64.ofNat k).toNat : Int) := by
  rw [toNat_shr x k hk]; exact (Int.natCast_ediv _ _).symm
theorem u8_wrap64 (x : UInt64) : IntKind.u8.wrap (x.toNat : Int) = ((x.toUInt8).toNat : Int) := by
  rw [IntKind.wrap_u8, UInt64.toNat_toUInt8]; omega
theorem u64_of_u8 (c : UInt8) : IntKind.u64.wrap (c.toNat : Int) = ((c.toUInt64).toNat : Int) := by
  rw [wrap_u64_nat, UInt8.toNat_toUInt64]; have := c.toNat_lt; omega
theorem u64_shl8 (x : UInt64) : IntKind.u64.wrap ((x.toNat : Int) * 256) = ((x <<< 8).toNat : Int) := u64_shl x 8 (by omega)
theorem u64_shl56 (x : UInt64) : IntKind.u64.wrap ((x.toNat : Int) * 72057594037927936) = ((x <<< 56).toNat : Int) := u64_shl x 56 (by omega)
theorem u64_shl3 (x : UInt64) : IntKind.u64.wrap ((x.toNat : Int) * 8) = ((x <<< 3).toNat : Int) := u64_shl x 3 (by omega)
theorem u64_shl61 (x : UInt64) : IntKind.u64.wrap ((x.toNat : Int) * 2305843009213693952) = ((x <<< 61).toNat : Int) := u64_shl x 61 (by omega)
theorem u64_shr8 (x : UInt64) : (x.toNat : Int) / (256 : Int) = ((x >>> 8).toNat : Int) := u64_shr x 8 (by omega)
theorem u64_shr56 (x : UInt64) : (x.toNat : Int) / (72057594037927936 : Int) = ((x >>> 56).toNat : Int) := u64_shr x 56 (by omega)
theorem u64_shr3 (x : UInt64) : (x.toNat : Int) / (8 : Int) = ((x >>> 3).toNat : Int) := u64_shr x 3 (by omega)
theorem u64_shr61 (x : UInt64) : (x.toNat : Int) / (2305843009213693952 : Int) = ((x >>> 61).toNat : Int) := u64_shr x 61 (by omega)

theorem ret_u64 {a b : Int} (h : a = b) : Ending.returned (.int .u64 a) = .returned (.int .u64 b) := by rw [h]

/-- A rotation by k bits to the left, as both make it. -/
theorem rot_r8 (x : UInt64) : bits .or .u64 (IntKind.u64.wrap ((x.toNat : Int) * 72057594037927936)) ((x.toNat : Int) / 256) = ((rotr8 x).toNat : Int) := by
  rw [u64_shl56, u64_shr8, u64_or, rotr8, UInt64.or_comm]
theorem rot_l3 (x : UInt64) : bits .or .u64 (IntKind.u64.wrap ((x.toNat : Int) * 8)) ((x.toNat : Int) / 2305843009213693952) = ((rotl3 x).toNat : Int) := by
  rw [u64_shl3, u64_shr61, u64_or, rotl3]
theorem rot_l8 (x : UInt64) : bits .or .u64 (IntKind.u64.wrap ((x.toNat : Int) * 256)) ((x.toNat : Int) / 72057594037927936) = ((rotl8 x).toNat : Int) := by
  rw [u64_shl8, u64_shr56, u64_or, rotl8]
theorem rot_r3 (x : UInt64) : bits .or .u64 (IntKind.u64.wrap ((x.toNat : Int) * 2305843009213693952)) ((x.toNat : Int) / 8) = ((rotr3 x).toNat : Int) := by
  rw [u64_shl61, u64_shr3, u64_or, rotr3, UInt64.or_comm]
theorem rot_r8' (x : UInt64) : bits .or .u64 ((x.toNat : Int) / 256) (IntKind.u64.wrap ((x.toNat : Int) * 72057594037927936)) = ((rotr8 x).toNat : Int) := by
  rw [u64_shl56, u64_shr8, u64_or, rotr8]
theorem rot_l3' (x : UInt64) : bits .or .u64 ((x.toNat : Int) / 2305843009213693952) (IntKind.u64.wrap ((x.toNat : Int) * 8)) = ((rotl3 x).toNat : Int) := by
  rw [u64_shl3, u64_shr61, u64_or, rotl3, UInt64.or_comm]
theorem rot_l8' (x : UInt64) : bits .or .u64 ((x.toNat : Int) / 72057594037927936) (IntKind.u64.wrap ((x.toNat : Int) * 256)) = ((rotl8 x).toNat : Int) := by
  rw [u64_shl8, u64_shr56, u64_or, rotl8, UInt64.or_comm]
theorem rot_r3' (x : UInt64) : bits .or .u64 ((x.toNat : Int) / 8) (IntKind.u64.wrap ((x.toNat : Int) * 2305843009213693952)) = ((rotr3 x).toNat : Int) := by
  rw [u64_shl61, u64_shr3, u64_or, rotr3]

set_option maxHeartbeats 400000 in
theorem RotateLeft64_r8 (x : UInt64) (w : World) : Calls Tryz.prog 155 #[.int .u64 (x.toNat : Int), .int .i64 (-8)] w fun e w' => e = .returned (.int .u64 ((rotr8 x).toNat : Int)) ∧ w = w' := by
  have hx := u64_bd x
  have hk : bits BinOp.and IntKind.u64 (IntKind.u64.wrap (-8)) 63 = 56 := by kernel_rfl
  go_enter Tryz.func155, Tryz.ntmps155
  go_wp2_with fail
  go_ret
  exact ⟨ret_u64 (rot_r8 x), rfl⟩
set_option maxHeartbeats 400000 in
theorem RotateLeft64_l3 (x : UInt64) (w : World) : Calls Tryz.prog 155 #[.int .u64 (x.toNat : Int), .int .i64 3] w fun e w' => e = .returned (.int .u64 ((rotl3 x).toNat : Int)) ∧ w = w' := by
  have hx := u64_bd x
  have hk : bits BinOp.and IntKind.u64 3 63 = 3 := by kernel_rfl
  go_enter Tryz.func155, Tryz.ntmps155
  go_wp2_with fail
  go_ret
  exact ⟨ret_u64 (rot_l3 x), rfl⟩
set_option maxHeartbeats 400000 in
theorem RotateLeft64_l8 (x : UInt64) (w : World) : Calls Tryz.prog 155 #[.int .u64 (x.toNat : Int), .int .i64 8] w fun e w' => e = .returned (.int .u64 ((rotl8 x).toNat : Int)) ∧ w = w' := by
  have hx := u64_bd x
  have hk : bits BinOp.and IntKind.u64 8 63 = 8 := by kernel_rfl
  go_enter Tryz.func155, Tryz.ntmps155
  go_wp2_with fail
  go_ret
  exact ⟨ret_u64 (rot_l8 x), rfl⟩
set_option maxHeartbeats 400000 in
theorem RotateLeft64_r3 (x : UInt64) (w : World) : Calls Tryz.prog 155 #[.int .u64 (x.toNat : Int), .int .i64 (-3)] w fun e w' => e = .returned (.int .u64 ((rotr3 x).toNat : Int)) ∧ w = w' := by
  have hx := u64_bd x
  have hk : bits BinOp.and IntKind.u64 (IntKind.u64.wrap (-3)) 63 = 61 := by kernel_rfl
  go_enter Tryz.func155, Tryz.ntmps155
  go_wp2_with fail
  go_ret
  exact ⟨ret_u64 (rot_r3 x), rfl⟩

end Go.Proofs.YtinpiodfpnbllaaGreatDoor

/- The block cipher of the program: words, blocks, rounds. -/
namespace Go.Proofs.YtinpiodfpnbllaaGreatDoor
open Go.RowKit
set_option linter.unusedVariables false

theorem wd_take_succ {l : List UInt8} {k : Nat} (h : k < l.length) : wd (l.take (k + 1)) = (wd (l.take k) <<< 8 ||| (l.getD k 0).toUInt64) := by
  rw [List.take_succ_eq_append_getElem h, wd_snoc, shl8_or]
  simp [List.getD, List.getElem?_eq_getElem h]
/-- Two words as a value. -/
def pairC (p : W2) : Array Value := #[.int .u64 (p.1.toNat : Int), .int .u64 (p.2.toNat : Int)]

theorem shl8_or_u8 (x : UInt64) (c : UInt8) : bits .or .u64 (IntKind.u64.wrap ((x.toNat : Int) * 256)) (c.toNat : Int) = ((x <<< 8 ||| c.toUInt64).toNat : Int) := by
  rw [u64_shl8, show (c.toNat : Int) = (c.toUInt64.toNat : Int) from by rw [UInt8.toNat_toUInt64], u64_or]
theorem pair_cong {a b c d : Int} (h1 : a = b) (h2 : c = d) : (#[.int .u64 a, .int .u64 c] : Array Value) = #[.int .u64 b, .int .u64 d] := by rw [h1, h2]
set_option maxHeartbeats 1000000 in
theorem wordsOf_any (b : List UInt8) (w : World) (hb : b.length = 16) : Calls Tryz.prog 106 #[.agg (cellsB b).toArray] w fun e w' => e = .returned (.agg #[.int .u64 ((wds b).1.toNat : Int), .int .u64 ((wds b).2.toNat : Int)]) ∧ Below w.heap.size w w' := by
  have HB := Lib.hid hb
  clear hb
  go_enter Tryz.func106, Tryz.ntmps106
  go_wp2_with fail
  go_loopw [5] (fun vk wr => ∃ (k : Nat) (x y : UInt64), k ≤ 8 ∧ vk = .int .i64 k ∧ Hid (x = wd (b.take k) ∧ y = wd ((b.drop 8).take k)) ∧ Blk wr w.heap.size 24 (cellsB b).toArray ∧
      Blk wr (w.heap.size + 1) 167 #[.int .u64 0, .int .u64 0] ∧ Blk wr (w.heap.size + 1 + 1) 167 #[.int .u64 (x.toNat : Int), .int .u64 (y.toNat : Int)] ∧ Below w.heap.size w wr) (fun vk _ => 8 - (intOf vk).toNat)
  case atStart => exact ⟨0, 0, 0, by omega, rfl, ⟨rfl, rfl⟩, blk_a0 _ _ _ _ _, blk_a1 _ _ _ _ _, blk_a2 _ _ _ _ _, alloc3_bel _ _ _ _⟩
  case round =>
    obtain ⟨k, x, y, hk, rfl, HX, hB1, hB2, hB3, hbel⟩ := hrel
    by_cases hk8 : k < 8
    · have c0 := hB3.cell 0
      have c1 := hB3.cell 1
      have f0 := hB3.frozen 0
      have f1 := hB3.frozen 1
      simp only [List.getElem?_toArray, List.getElem?_cons_zero, List.getElem?_cons_succ] at c0 c1
      have d0 := (hB1.cell k).trans (bytes_get b k (by have := HB.out; omega))
      have d1 := (hB1.cell (8 + k)).trans (bytes_get b (8 + k) (by have := HB.out; omega))
      generalize hv0 : b.getD k 0 = v0 at *
      generalize hv1 : b.getD (8 + k) 0 = v1 at *
      have HV := Lib.hid (And.intro hv0 hv1)
      clear hv0 hv1
      have hbx := u64_bd x
      have hby := u64_bd y
      have hki : (k : Int) < 8 := by omega
      have hv0' : (v0.toNat : Int) ≤ 255 := by have := v0.toNat_lt; omega
      have hv1' : (v1.toNat : Int) ≤ 255 := by have := v1.toNat_lt; omega
      go_wp2_with fail
      go_region
      have e1 := shl8_or_u8 x v0
      have e2 := shl8_or_u8 y v1
      rw [e1, e2]
      have hB4 := Lib.hid ((hB3.set_ 0 (.int .u64 ((x <<< 8 ||| v0.toUInt64).toNat : Int))).set_ 1 (.int .u64 ((y <<< 8 ||| v1.toUInt64).toNat : Int)))
      clear e1 e2 c0 c1 f0 f1 d0 d1
      go_wp2_with fail
      go_roundw
      case rel =>
        refine ⟨k + 1, x <<< 8 ||| v0.toUInt64, y <<< 8 ||| v1.toUInt64, by omega, by go_num, ?_, (((hB1.far (p := ⟨w.heap.size + 1 + 1, 0, none⟩) (by simp; omega) _).far (p := ⟨w.heap.size + 1 + 1, 1, none⟩) (by simp; omega) _)).drew,
          ((hB2.far (p := ⟨w.heap.size + 1 + 1, 0, none⟩) (by simp) _).far (p := ⟨w.heap.size + 1 + 1, 1, none⟩) (by simp) _).drew, Blk.drew (by simpa using hB4.out), ((hbel.setCell (p := ⟨w.heap.size + 1 + 1, 0, none⟩) (by simp; omega) _).setCell (p := ⟨w.heap.size + 1 + 1, 1, none⟩) (by simp; omega) _).drew⟩
        obtain ⟨h1, h2⟩ := HX.out
        obtain ⟨g1, g2⟩ := HV.out
        refine ⟨?_, ?_⟩
        · rw [wd_take_succ (by have := HB.out; omega), h1, g1]
        · rw [wd_take_succ (by have := HB.out; simp; omega), h2, ← g2]
          congr 2
          simp [List.getD, List.getElem?_drop]
      case measure => simp [intOf]; omega
    · obtain rfl : k = 8 := by omega
      have c0 := hB3.cell 0
      have c1 := hB3.cell 1
      have r0 := hB2.cell 0
      have r1 := hB2.cell 1
      have f0 := hB2.frozen 0
      have f1 := hB2.frozen 1
      simp only [List.getElem?_toArray, List.getElem?_cons_zero, List.getElem?_cons_succ] at c0 c1 r0 r1
      have HE : Hid (x = (wds b).1 ∧ y = (wds b).2) := by
        obtain ⟨h1, h2⟩ := HX.out
        refine ⟨h1, ?_⟩
        rw [h2, List.take_of_length_le (by have := HB.out; simp; omega)]
        rfl
      go_wp2_with fail
      have hB5 : Blk ((wr.setCell ⟨w.heap.size + 1, 0, none⟩ (.int .u64 (x.toNat : Int))).setCell ⟨w.heap.size + 1, 1, none⟩ (.int .u64 (y.toNat : Int))) (w.heap.size + 1) 167 #[.int .u64 (x.toNat : Int), .int .u64 (y.toNat : Int)] := by
        simpa using (hB2.set_ 0 (.int .u64 (x.toNat : Int))).set_ 1 (.int .u64 (y.toNat : Int))
      refine bodyPost_ret (results_cell_row rfl _ _ (w.heap.size + 1) _ _ (0, 0) _ rfl hB5 Tryz.underlying167 rfl (by kernel_rfl)) rfl ⟨?_, ?_⟩
      · rw [HE.out.1, HE.out.2]
      · exact (hbel.setCell (p := ⟨w.heap.size + 1, 0, none⟩) (by simp) _).setCell (p := ⟨w.heap.size + 1, 1, none⟩) (by simp) _

set_option maxHeartbeats 1000000 in
theorem round_any (p : W2) (k : UInt64) (w : World) : Calls Tryz.prog 112 #[.agg #[.int .u64 (p.1.toNat : Int), .int .u64 (p.2.toNat : Int)], .int .u64 (k.toNat : Int)] w fun e w' => e = .returned (.agg #[.int .u64 ((rnd k p).1.toNat : Int), .int .u64 ((rnd k p).2.toNat : Int)]) ∧ Below w.heap.size w w' := by
  obtain ⟨x, y⟩ := p
  dsimp only
  have hx := u64_bd x
  have hy := u64_bd y
  have hk := u64_bd k
  have HE : Hid (((rotr8 x + y) ^^^ k) = (rnd k (x, y)).1 ∧ (rotl3 y ^^^ ((rotr8 x + y) ^^^ k)) = (rnd k (x, y)).2) := ⟨rfl, rfl⟩
  go_enter Tryz.func112, Tryz.ntmps112
  go_wp2_with fail
  go_quiet ((go_at_call 155; exact quiet_left' (RotateLeft64_r8 x _)))
  go_wp2_with (go_at_call 155; refine (RotateLeft64_l3 y _).mono ?_; rintro e w1 ⟨rfl, rfl⟩)
  simp only [u64_add, u64_xor]
  rw [HE.out.2, HE.out.1]
  exact bodyPost_ret (v := .agg #[.int .u64 ((rnd k (x, y)).1.toNat : Int), .int .u64 ((rnd k (x, y)).2.toNat : Int)]) (by simp [results, Tryz.results112, go_sem]) rfl
    ⟨rfl, ((below_drewN ((alloc_bel _ _).alloc (by simp) _) _).setCell (p := ⟨w.heap.size + 1, 0, none⟩) (by simp) _).setCell (p := ⟨w.heap.size + 1, 1, none⟩) (by simp) _⟩

/-- The block after k rounds. -/
def stB (p : W2) (k : Nat) : List UInt8 := (List.range 16).map fun j => if j < 8 then (if j < k then (by8 p.1).getD j 0 else 0) else (if j - 8 < k then (by8 p.2).getD (j - 8) 0 else 0)
theorem stB_step (p : W2) (k : Nat) (hk : k < 8) : ((stB p k).set k ((by8 p.1).getD k 0)).set (8 + k) ((by8 p.2).getD k 0) = stB p (k + 1) := by
  match k, hk with
  | 0, _ => rfl
  | 1, _ => rfl
  | 2, _ => rfl
  | 3, _ => rfl
  | 4, _ => rfl
  | 5, _ => rfl
  | 6, _ => rfl
  | 7, _ => rfl
theorem stB_fin (p : W2) : stB p 8 = blk p := rfl
theorem stB_length (p : W2) (k : Nat) : (stB p k).length = 16 := by simp [stB]
theorem by8_getD (x : UInt64) (k : Nat) (hk : k < 8) : (by8 x).getD k 0 = (x >>> UInt64.ofNat (56 - 8 * k)).toUInt8 := by
  match k, hk with
  | 0, _ => rfl
  | 1, _ => rfl
  | 2, _ => rfl
  | 3, _ => rfl
  | 4, _ => rfl
  | 5, _ => rfl
  | 6, _ => rfl
  | 7, _ =>
    show x.toUInt8 = (x >>> 0).toUInt8
    simp
theorem byte_at (x : UInt64) (m : Nat) (hm : m < 64) : (x.toNat : Int) / 2 ^ m % 256 = (((x >>> UInt64.ofNat m).toUInt8).toNat : Int) := by
  rw [← u8_wrap64, ← u64_shr x m hm, IntKind.wrap_u8]
  congr 2
theorem bytes_set (l : List UInt8) (i : Nat) (x : UInt8) : (cellsB l).toArray.setIfInBounds i (.int .u8 (x.toNat : Int)) = (cellsB (l.set i x)).toArray := by
  rw [cellsB_set]; simp
theorem zero16 : (#[.int .u8 0, .int .u8 0, .int .u8 0, .int .u8 0, .int .u8 0, .int .u8 0, .int .u8 0, .int .u8 0, .int .u8 0, .int .u8 0, .int .u8 0, .int .u8 0, .int .u8 0, .int .u8 0, .int .u8 0, .int .u8 0] : Array Value) = (cellsB zeroK).toArray := rfl
theorem under_key : Tryz.prog.underlying 24 = some (.array 16 5) := Tryz.underlying24
theorem info_key : (Tryz.prog.info? 24).map (·.size) = some 16 := by kernel_rfl
theorem cellsB_sizes (a b : List UInt8) (ha : a.length = 16) (hb : b.length = 16) : (cellsB a).toArray.size = (cellsB b).toArray.size := by simp [cellsB, ha, hb]
theorem cellsB_all (l : List UInt8) : (cellsB l).toArray.all (·.oneCell') = true := by
  rw [Array.all_eq_true_iff_forall_mem]
  intro x hx
  exact cellsB_one l x (by simpa using hx)
theorem cellsB_size (l : List UInt8) (h : l.length = 16) : (Tryz.prog.info? 24).map (·.size) = some (cellsB l).toArray.size := by rw [info_key]; simp [cellsB, h]

set_option maxHeartbeats 1000000 in
theorem block_any (p : W2) (w : World) : Calls Tryz.prog 108 #[.agg #[.int .u64 (p.1.toNat : Int), .int .u64 (p.2.toNat : Int)]] w fun e w' => e = .returned (.agg (cellsB (blk p)).toArray) ∧ Below w.heap.size w w' := by
  have HZ := Lib.hid zero16
  go_enter Tryz.func108, Tryz.ntmps108
  go_wp2_with fail
  rw [HZ.out]
  go_loopw [5] (fun vk wr => ∃ k : Nat, k ≤ 8 ∧ vk = .int .i64 k ∧ Blk wr w.heap.size 167 #[.int .u64 (p.1.toNat : Int), .int .u64 (p.2.toNat : Int)] ∧
      Blk wr (w.heap.size + 1) 24 (cellsB zeroK).toArray ∧ Blk wr (w.heap.size + 1 + 1) 24 (cellsB (stB p k)).toArray ∧ Below w.heap.size w wr) (fun vk _ => 8 - (intOf vk).toNat)
  case atStart => exact ⟨0, by omega, rfl, blk_a0 _ _ _ _ _, blk_a1 _ _ _ _ _, blk_a2 _ _ _ _ _, alloc3_bel _ _ _ _⟩
  case round =>
    obtain ⟨k, hk, rfl, hB1, hB2, hB3, hbel⟩ := hrel
    by_cases hk8 : k < 8
    · obtain ⟨m, hm⟩ : ∃ m, 56 - 8 * k = m := ⟨_, rfl⟩
      have hmi : (56 : Int) - 8 * k = m := by omega
      have hm0 : (m : Int) ≤ 56 := by omega
      have c0 := hB1.cell 0
      have c1 := hB1.cell 1
      simp only [List.getElem?_toArray, List.getElem?_cons_zero, List.getElem?_cons_succ] at c0 c1
      have d0 := (hB3.cell k).trans (bytes_get _ k (by rw [stB_length]; omega))
      have d1 := (hB3.cell (8 + k)).trans (bytes_get _ (8 + k) (by rw [stB_length]; omega))
      have f0 := hB3.frozen k
      have f1 := hB3.frozen (8 + k)
      have hx := u64_bd p.1
      have hy := u64_bd p.2
      have hki : (k : Int) < 8 := by omega
      have HS := Lib.hid (stB_step p k hk8)
      have HY1 : Hid ((p.1.toNat : Int) / 2 ^ m % 256 = (((by8 p.1).getD k 0).toNat : Int)) := by unfold Hid; rw [byte_at _ _ (by omega), by8_getD _ _ hk8, hm]
      have HY2 : Hid ((p.2.toNat : Int) / 2 ^ m % 256 = (((by8 p.2).getD k 0).toNat : Int)) := by unfold Hid; rw [byte_at _ _ (by omega), by8_getD _ _ hk8, hm]
      clear hm
      go_wp2_with fail
      go_region
      rw [HY1.out, HY2.out]
      have hB4 := (hB3.set_ k (.int .u8 (((by8 p.1).getD k 0).toNat : Int))).set_ (8 + k) (.int .u8 (((by8 p.2).getD k 0).toNat : Int))
      rw [bytes_set, bytes_set, HS.out] at hB4
      have HB4 := Lib.hid hB4
      clear hB4 c0 c1 d0 d1 f0 f1
      go_wp2_with fail
      go_roundw
      case rel => exact ⟨k + 1, by omega, by go_num, ((hB1.far (p := ⟨w.heap.size + 1 + 1, k, none⟩) (by simp; omega) _).far (p := ⟨w.heap.size + 1 + 1, 8 + k, none⟩) (by simp; omega) _).drew,
          ((hB2.far (p := ⟨w.heap.size + 1 + 1, k, none⟩) (by simp) _).far (p := ⟨w.heap.size + 1 + 1, 8 + k, none⟩) (by simp) _).drew, HB4.out.drew, ((hbel.setCell (p := ⟨w.heap.size + 1 + 1, k, none⟩) (by simp; omega) _).setCell (p := ⟨w.heap.size + 1 + 1, 8 + k, none⟩) (by simp; omega) _).drew⟩
      case measure => simp [intOf]; omega
    · obtain rfl : k = 8 := by omega
      rw [stB_fin] at hB3
      have hL : (blk p).length = 16 := rfl
      go_wp2_with (first
        | (refine wpList_load_row rfl 24 (.tmp 3) rfl (w.heap.size + 1 + 1) rfl 24 (cellsB (blk p)).toArray (0, 0) _ hB3 under_key rfl (cellsB_size _ hL) ?_)
        | (refine wpList_store_row rfl 24 (.tmp 2) (.tmp 28) rfl (w.heap.size + 1) (cellsB (blk p)).toArray rfl rfl 24 (cellsB zeroK).toArray hB2 (cellsB_size _ hL) (cellsB_sizes _ _ zeroK_length hL) (cellsB_all _) ?_))
      have hB5 := hB2.setRow (cellsB (blk p)).toArray
      refine bodyPost_ret (results_cell_row rfl _ _ (w.heap.size + 1) _ _ (0, 0) _ rfl hB5 under_key rfl (cellsB_size _ hL)) rfl ⟨rfl, below_setRow hbel (by omega) _⟩
end Go.Proofs.YtinpiodfpnbllaaGreatDoor

/- A range over a function whose iterator keeps a variable of its own in memory, the body being left in no way but its end: the law, for whatever invariant of the caller's that speaks of what lay ahead of the loop. -/
namespace Go.Proofs.YtinpiodfpnbllaaGreatDoor
open Go.RowKit Go.Shelf
set_option linter.unusedVariables false

/-- What holds through new blocks, and through writes to blocks from B on. -/
def HoldsFrom {β : Type} (B : Nat) (J : β → World → Prop) : Prop := ∀ s X Y row, J s X → X.grownBy Y row → (∀ r, row = some r → B ≤ r) → J s Y
theorem HoldsFrom.put {β : Type} {B : Nat} {J : β → World → Prop} (h : HoldsFrom B J) {s : β} {W : World} (hs : J s W) {l : Nat} (hl : B ≤ l) (o : Obj) : J s (W.putObj l o) :=
  h s W _ (some l) hs (grownBy_putObj' W l o) fun r e => by cases e; exact hl
theorem HoldsFrom.more {β : Type} {B : Nat} {J : β → World → Prop} (h : HoldsFrom B J) {s : β} {W : World} (hs : J s W) (o : Obj) : J s (W.alloc o) := h s W _ none hs (World.grownBy_alloc W o none) fun r e => by cases e
/-- What an iterator does: the elements of xs come, one by one. -/
def Brings {α : Type} (F : Fence) (n : Nat) (P : Program) (g : Nat) (lb : Array Value) (encs : α → Array Value) (Kp : World → World → Prop) (xs : List α) (w : World) : Prop :=
  ∀ (l : Nat) (J : List α → World → Prop) (W : World), Below w.heap.size w W → HoldsFrom W.heap.size J →
    (∀ pre x W1, J pre W1 → (∃ rest, xs = pre ++ x :: rest) → YieldAt F (n - 1) P l (encs x) W1 fun e W' => e = .returned (.bool true) ∧ J (pre ++ [x]) W' ∧ Kp W1 W') →
    J [] W → CallsIn F n P g (#[.func (.yield l) #[] #[]] ++ lb) W fun e W' => (∃ v, e = .returned v) ∧ J xs W'

def AtEnd (R : World → Prop) : Exit → Act → World → Prop
  | .normal, _, W => R W
  | _, _, _ => False

theorem wpIn_range_box {P : Program} {F : Fence} {n : Nat} {α : Type} {g : Operand} {ps : Array Tmp} {assign body : Code} {Q : Exit → Act → World → Prop} {a : Act} {w : World}
    (hro : F.round = none) (h1 : 1 ≤ n) {gf : Nat} {lb : Array Value} (hg : a.eval g = .func (.func gf) #[] lb) (hFg : F.fn gf) (eg : ∀ args w, (callFunc gf args).run P w = .ok (.enter gf args) w)
    {encs : α → Array Value} {Kp : World → World → Prop} {xs : List α} {w0 : World} (hseq : Brings F (n - 1) P gf lb encs Kp xs w0)
    (hKt : ∀ {X Y Z : World}, Kp X Y → Kp Y Z → Kp X Z) (hKb : ∀ (W : World) (l : Nat) (o o' : Obj), w.heap.size ≤ l → W.heap[l]? = some o → o.isCells = false → Kp W (W.putObj l o')) (hb0 : Below w0.heap.size w0 w) (hps : ∀ x, (encs x).size = ps.size)
    (I : List α → World → Prop) (hI : HoldsFrom w.heap.size I) (h0 : I [] w) (a₁ : α → Act)
    (hassign : ∀ (l : Nat) (x : α) (W : World) (K : Act → World → Prop), K (a₁ x) W →
      assign.wpIn (F.inRound l) (n - 1 - 1) P (Exit.then K (fun _ _ _ => False)) { tmps := (ps.zip (encs x)).foldl (fun t (p, v) => t.setIfInBounds p v) a.tmps, defers := [] } W)
    (hbody : ∀ (l : Nat) (pre : List α) (x : α) (W : World), I pre W → (∃ rest, xs = pre ++ x :: rest) → body.wpIn (F.inRound l) (n - 1 - 1) P (AtEnd fun W' => KeepsFrom w.heap.size W W' ∧ Kp W W' ∧ I (pre ++ [x]) W') (a₁ x) W)
    (hdone : ∀ (D : Nat) (W : World), w.heap.size ≤ D → I xs W → W.heap[D]? = some (.deferred (some [])) → Q .normal { a with defers := { target := .collected D, args := #[] } :: a.defers } W) :
    (Code.rangeFunc g ps assign body).wpIn F n P Q a w := by
  refine wpIn_rangeFunc fun fn hfn => ?_
  rw [hro]
  let rec_ : LoopState → Option Code → Loop := fun st pe => { state := st, pending := pe, fn := fn, tmps := a.tmps, params := ps, assign := assign, body := body, defers := w.heap.size }
  have s1 : ((w.alloc (.deferred (some []))).alloc (.loop (rec_ .ready none))).heap.size = w.heap.size + 1 + 1 := by simp
  generalize hW1 : (w.alloc (.deferred (some []))).alloc (.loop (rec_ .ready none)) = W1 at s1
  have hL1 : W1.heap[w.heap.size + 1]? = some (.loop (rec_ .ready none)) := by
    rw [← hW1]; have := World.alloc_heap_new (w.alloc (.deferred (some []))) (.loop (rec_ .ready none)); rwa [World.size_alloc] at this
  have hK1 : W1.heap[w.heap.size]? = some (.deferred (some [])) := by
    rw [← hW1]; exact (Below.heap_alloc _ _ _ (by simp)).trans (World.alloc_heap_new w _)
  have hI1 : I [] W1 := by rw [← hW1]; exact hI.more (hI.more h0 _) _
  have hb1 : Below w0.heap.size w0 W1 := by rw [← hW1]; exact hb0.trans ((alloc2_bel w _ _).mono hb0.size)
  refine ⟨w.heap.size + 1, [{ target := .collected w.heap.size, args := #[] }], W1, { target := .fn (.func gf) lb, args := #[.func (.yield (w.heap.size + 1)) #[] #[]] }, W1, gf, #[.func (.yield (w.heap.size + 1)) #[] #[]] ++ lb, W1, ?_, ?_, ?_, ?_, fun _ => h1, ?_⟩
  · rw [← hW1]; exact run_enterLoop_outer _ _ _ _ _
  · simp only [resolve, hg]
    simp [go_sem]
  · intro f' hf'; simp [Target.leads] at hf'; subst hf'; exact hFg
  · simp [invoke, go_sem, eg]
  · refine (hseq (w.heap.size + 1) (fun pre W => I pre W ∧ W.heap[w.heap.size + 1]? = some (.loop (rec_ .ready none)) ∧ W.heap[w.heap.size]? = some (.deferred (some []))) W1 hb1 ?_ ?_ ⟨hI1, hL1, hK1⟩).mono ?_
    · rintro s X Y row ⟨j1, j2, j3⟩ hgr hrow
      have lt : ∀ k o, k ≤ w.heap.size + 1 → X.heap[k]? = some o → Y.heap[k]? = some o := fun k o hk ho =>
        (hgr.block k (Array.getElem?_eq_some_iff.1 ho).1 (fun e => by have := hrow k e.symm; omega)).trans ho
      exact ⟨hI s X Y row j1 hgr (fun r e => by have := hrow r e; omega), lt _ _ (by omega) j2, lt _ _ (by omega) j3⟩
    · rintro pre x W ⟨hi, hl, hk⟩ hrest
      have hlt : w.heap.size + 1 < W.heap.size := (Array.getElem?_eq_some_iff.1 hl).1
      refine ⟨fn, _, assign, body, run_yield (P := P) (args := encs x) hl (hps x), roundIn_of_wpIn hfn (hassign _ x W _ ⟨_, run_beginRound hl rfl, ?_⟩)⟩
      have hl2 : (W.putObj (w.heap.size + 1) (.loop { rec_ .ready none with state := .busy })).heap[w.heap.size + 1]? = some (.loop { rec_ .ready none with state := .busy }) := World.putObj_heap_same hlt
      have hk2 : (W.putObj (w.heap.size + 1) (.loop { rec_ .ready none with state := .busy })).heap[w.heap.size]? = some (.deferred (some [])) := (World.putObj_heap_other (by omega)).trans hk
      refine wpIn_mono (hbody _ pre x _ (hI.put hi (by omega) _) hrest) ?_
      rintro e a3 W3 hp
      cases e with
      | normal =>
        obtain ⟨hk3, hkp3, hi3⟩ := hp
        have hl3 := hk3.same _ _ (by omega) hl2 rfl
        have hd3 := hk3.same _ _ (Nat.le_refl _) hk2 rfl
        exact ⟨_, _, run_endRound (P := P) none hl3, rfl, ⟨hI.put hi3 (by omega) _, World.putObj_heap_same (Array.getElem?_eq_some_iff.1 hl3).1, (World.putObj_heap_other (by omega)).trans hd3⟩,
          hKt (hKt (hKb _ _ _ _ (by omega) hl rfl) hkp3) (hKb _ _ _ _ (by omega) hl3 rfl)⟩
      | _ => exact hp.elim
    · rintro e W2 ⟨⟨v, rfl⟩, hi, hl, hk⟩
      exact ⟨none, _, run_endLoop (P := P) hl (by simp [rec_]), hdone _ _ (Nat.le_refl _) (hI.put hi (by omega) _) ((World.putObj_heap_other (by omega)).trans hk)⟩
end Go.Proofs.YtinpiodfpnbllaaGreatDoor

/- The round keys, as the iterator brings them. -/
namespace Go.Proofs.YtinpiodfpnbllaaGreatDoor
open Go.RowKit Go.Shelf
set_option linter.unusedVariables false
attribute [local go_sem] Oper.semAt_some

theorem round_nat (p : W2) (i : Nat) (hi : i < 32) (w : World) : Calls Tryz.prog 112 #[.agg #[.int .u64 (p.1.toNat : Int), .int .u64 (p.2.toNat : Int)], .int .u64 (i : Int)] w fun e w' => e = .returned (.agg #[.int .u64 ((rnd (UInt64.ofNat i) p).1.toNat : Int), .int .u64 ((rnd (UInt64.ofNat i) p).2.toNat : Int)]) ∧ Below w.heap.size w w' := by
  have e : ((UInt64.ofNat i).toNat : Int) = (i : Int) := by
    rw [UInt64.toNat_ofNat', Nat.mod_eq_of_lt (by omega)]
  have := round_any p (UInt64.ofNat i) w
  rw [e] at this
  exact this

/-- What a round keeps: cells from M on. -/
def KpM (M : Nat) (W W' : World) : Prop := ∀ k cs t fr, M ≤ k → W.heap[k]? = some (.cells cs t fr) → W'.heap[k]? = W.heap[k]?
theorem KpM.trans {M : Nat} {X Y Z : World} (h : KpM M X Y) (k : KpM M Y Z) : KpM M X Z := fun i cs t fr hi hx => by
  have h1 := h i cs t fr hi hx
  exact (k i cs t fr hi (h1.trans hx)).trans h1
theorem KpM.put {M : Nat} (W : World) (l : Nat) (o o' : Obj) (h : W.heap[l]? = some o) (ho : o.isCells = false) : KpM M W (W.putObj l o') := fun k cs t fr hk hx => by
  refine World.putObj_heap_other (fun e => ?_)
  subst e
  rw [h] at hx
  injection hx with hx
  rw [hx] at ho
  simp [Obj.isCells] at ho
theorem below_grown {w w' : World} (h : Below w.heap.size w w') : w.grownBy w' none := ⟨h.os, h.tape, h.output, h.size, fun k hk _ => h.block k hk⟩

theorem range_part (n i : Nat) (h : i < n) : ∃ rest, List.range n = List.range i ++ i :: rest := by
  obtain ⟨m, rfl⟩ : ∃ m, n = i + 1 + m := ⟨n - (i + 1), by omega⟩
  exact ⟨(List.range m).map (i + 1 + ·), by rw [List.range_add, List.range_succ]; simp⟩
/-- The key's number i, as the iterator hands it over. -/
def keyE (k : W2) (i : Nat) : Array Value := #[.int .i64 (i : Int), .int .u64 ((ksS k i).2.toNat : Int)]
set_option maxRecDepth 100000 in
set_option maxHeartbeats 2000000 in
theorem keys1_in (F : Fence) (n M : Nat) (hfn : ∀ f, F.fn f) (hro : F.round = none) (hn : 1 ≤ n)
    (conv : ∀ (f : FuncId) (args : Array Value) (W : World) (R : Ending → World → Prop) (n : Nat), Calls Tryz.prog f args W R → CallsIn F n Tryz.prog f args W R)
    (Bs : Nat) (k : List UInt8) (hk : k.length = 16) (w : World) (hB : Blk w Bs 24 (cellsB k).toArray) (hM : M ≤ w.heap.size) :
    Brings F n Tryz.prog 154 #[.pointer (some ⟨Bs, 0, none⟩)] (keyE (wds k)) (KpM M) (List.range 32) w := by
  intro l J W hW hJ hY h0
  have hBW : Blk W Bs 24 (cellsB k).toArray := hB.below hW hB.lt
  have hcell : ∀ j, W.cell? ⟨Bs, j, none⟩ = (cellsB k).toArray[j]? := fun j => hBW.cell j
  have hkl : (cellsB k).length = 16 := by rw [cellsB_length, hk]
  have HK := Lib.hid hk
  have HMW : Hid (M ≤ W.heap.size) := by have := hW.size; unfold Hid; omega
  have HYY := Lib.hid hY
  have HJJ := Lib.hid hJ
  have H0 := Lib.hid h0
  have CW : Hid (CallsIn F (n - 1) Tryz.prog 106 #[.agg (cellsB k).toArray] W fun e w' => e = .returned (.agg #[.int .u64 ((wds k).1.toNat : Int), .int .u64 ((wds k).2.toNat : Int)]) ∧ Below W.heap.size W w') := conv _ _ _ _ _ (wordsOf_any k W hk)
  have CR : Hid (∀ (p : W2) (i : Nat), i < 32 → ∀ W', CallsIn F (n - 1) Tryz.prog 112 #[.agg #[.int .u64 (p.1.toNat : Int), .int .u64 (p.2.toNat : Int)], .int .u64 (i : Int)] W' fun e w' => e = .returned (.agg #[.int .u64 ((rnd (UInt64.ofNat i) p).1.toNat : Int), .int .u64 ((rnd (UInt64.ofNat i) p).2.toNat : Int)]) ∧ Below W'.heap.size W' w') := fun p i hi W' => conv _ _ _ _ _ (round_nat p i hi W')
  clear hk hB hM hBW hY hJ h0 hW
  refine callsIn_of_wp Tryz.func154 rfl (hfn _) ?_ hro
  simp only [Tryz.ntmps154, List.size_toArray, List.length_cons, List.length_nil, Nat.reduceAdd, Nat.reduceSub, Array.replicate_succ, Array.replicate_zero, List.push_toArray, List.append_toArray, List.nil_append, List.cons_append]
  gi_wp2_with (gi_at_call 106; rw [fold16B k HK.out]; refine CW.out.mono ?_; rintro e w1 ⟨rfl, hb1⟩)
  have hs1 : M ≤ w1.heap.size := by have := HMW.out; have := hb1.size; omega
  have hsW : W.heap.size ≤ w1.heap.size := hb1.size
  gi_loopw [7] (fun vi wr => ∃ i : Nat, i ≤ 32 ∧ vi = .int .i64 (i : Int) ∧ J (List.range i) wr ∧ Blk wr w1.heap.size 167 #[.int .u64 ((ksS (wds k) i).1.toNat : Int), .int .u64 ((ksS (wds k) i).2.toNat : Int)]) (fun vi _ => 32 - (intOf vi).toNat)
  case atStart =>
    exact ⟨0, by omega, rfl, HJJ.out.more (HJJ.out _ _ _ none H0.out (below_grown hb1) (fun r e => by cases e)) _, Blk.new _ _ _⟩
  case round =>
    obtain ⟨i, hi, rfl, hJ, hB⟩ := hrel
    by_cases hlt : i < 32
    · have c0 := hB.cell 0
      have c1 := hB.cell 1
      simp only [List.getElem?_toArray, List.getElem?_cons_zero, List.getElem?_cons_succ] at c0 c1
      obtain ⟨fn, tmps, assign, body, hy, hR2⟩ := HYY.out _ i wr hJ (range_part 32 i hlt)
      have HR2 := Lib.hid hR2
      unfold keyE at hy
      have hii : (i : Int) < 32 := by omega
      have HRS : Hid (List.range (i + 1) = List.range i ++ [i]) := List.range_succ
      obtain ⟨p, hp⟩ : ∃ p, ksS (wds k) i = p := ⟨_, rfl⟩
      have HP : Hid (ksS (wds k) (i + 1) = rnd (UInt64.ofNat i) p) := by unfold Hid; rw [ksS, hp]
      rw [hp] at hy hB c0 c1
      have hx := u64_bd p.1
      have hy2 := u64_bd p.2
      clear hJ hR2 hp
      gi_wp2
      refine HR2.out.mono ?_
      rintro e W3 ⟨rfl, hJ3, hk3⟩
      have hB3 : Blk W3 w1.heap.size 167 #[.int .u64 (p.1.toNat : Int), .int .u64 (p.2.toNat : Int)] := (hk3 _ _ _ _ hs1 hB).trans hB
      have d0 := hB3.cell 0
      have d1 := hB3.cell 1
      simp only [List.getElem?_toArray, List.getElem?_cons_zero, List.getElem?_cons_succ] at d0 d1
      have HB3 := Lib.hid hB3
      have HJ3 := Lib.hid hJ3
      clear c0 c1 hy hB hJ3 hk3 hB3
      gi_wp2_with (gi_at_call 112; refine (CR.out p i hlt _).mono ?_; rintro e w4 ⟨rfl, hb4⟩; have hB4 := HB3.out.below' hb4; have f0 := hB4.frozen 0; have f1 := hB4.frozen 1; have g0 := hB4.cell 0; have g1 := hB4.cell 1; simp only [List.getElem?_toArray, List.getElem?_cons_zero, List.getElem?_cons_succ] at g0 g1; have HB4 := Lib.hid hB4; clear hB4)
      go_roundw
      case rel =>
        refine ⟨i + 1, by omega, by go_num, ?_, by rw [HP.out]; simpa using (HB4.out.set_ 0 (.int .u64 ((rnd (UInt64.ofNat i) p).1.toNat : Int))).set_ 1 (.int .u64 ((rnd (UInt64.ofNat i) p).2.toNat : Int))⟩
        rw [HRS.out]
        have j4 := HJJ.out _ _ _ none HJ3.out (below_grown hb4) (fun r e => by cases e)
        have gs : ∀ (X : World) (o : Nat) (v : Value), X.grownBy (X.setCell ⟨w1.heap.size, o, none⟩ v) (some w1.heap.size) := fun X o v => ⟨rfl, rfl, rfl, by simp [World.setCell], fun j hj hne => Below.heap_setCell X ⟨w1.heap.size, o, none⟩ v j (fun e => hne (by rw [e]))⟩
        exact HJJ.out _ _ _ _ (HJJ.out _ _ _ _ j4 (gs _ 0 _) (fun r e => by cases e; exact hsW)) (gs _ 1 _) (fun r e => by cases e; exact hsW)
      case measure => simp [intOf]; omega
    · obtain rfl : i = 32 := by omega
      gi_wp2
      go_end0
      exact ⟨⟨_, rfl⟩, hJ⟩
end Go.Proofs.YtinpiodfpnbllaaGreatDoor

/- Encrypt: the rounds. -/
namespace Go.Proofs.YtinpiodfpnbllaaGreatDoor
open Go.RowKit Go.Shelf
set_option linter.unusedVariables false
attribute [local go_sem] Oper.semAt_some run_storeCells_key

set_option maxHeartbeats 1000000 in
theorem keys_any (k : List UInt8) (w : World) : Calls Tryz.prog 105 #[.agg (cellsB k).toArray] w fun e w' => e = .returned (.func (.func 154) #[] #[.pointer (some ⟨w.heap.size, 0, none⟩)]) ∧ w' = w.alloc (.cells (cellsB k).toArray 24) := by
  go_enter Tryz.func105, Tryz.ntmps105
  go_wp2_with fail
  go_ret
  exact ⟨rfl, rfl⟩

set_option maxRecDepth 100000 in
set_option maxHeartbeats 2000000 in
theorem Encrypt_any (k b : List UInt8) (w : World) (hk : k.length = 16) (hb : b.length = 16) : Calls Tryz.prog 51 #[.agg (cellsB k).toArray, .agg (cellsB b).toArray] w fun e w' => e = .returned (.agg (cellsB (encS k b)).toArray) ∧ Below w.heap.size w w' := by
  have HK := Lib.hid hk
  have HB := Lib.hid hb
  have hkl : (cellsB k).length = 16 := by rw [cellsB_length, hk]
  have hbl : (cellsB b).length = 16 := by rw [cellsB_length, hb]
  have HZ := Lib.hid zero16
  refine (callsIn_wide (n := 6)).1 ?_
  have conv : ∀ (f : FuncId) (args : Array Value) (W : World) (R : Ending → World → Prop) (n : Nat), Calls Tryz.prog f args W R → CallsIn Fence.wide n Tryz.prog f args W R := fun _ _ _ _ _ h => callsIn_wide.2 h
  have hro : Fence.wide.round = none := rfl
  have hfn : ∀ f, Fence.wide.fn f := fun _ => trivial
  generalize Fence.wide = F at *
  clear hk hb
  refine callsIn_of_wp_marks Tryz.func51 rfl (hfn _) ?_ hro
  simp only [Tryz.ntmps51, List.size_toArray, List.length_cons, List.length_nil, Nat.reduceAdd, Nat.reduceSub, Array.replicate_succ, Array.replicate_zero, List.push_toArray, List.append_toArray, List.nil_append, List.cons_append]
  gi_wp2_with (first
    | (gi_at_call 106; rw [fold16B b HB.out, HZ.out]; refine (conv _ _ _ _ _ (wordsOf_any b _ HB.out)).mono ?_; rintro e w1 ⟨rfl, hb1⟩; have hck : ∀ j o, (w1.alloc o).cell? ⟨w.heap.size, j, none⟩ = (cellsB k).toArray[j]? := fun j o => (((blk_a0 w (cellsB k).toArray 24 _ _).below' hb1).alloc o).cell j; have hz : w.heap.size + 1 + 1 < w1.heap.size := by have := hb1.size; simp at this; omega)
    | (gi_at_call 105; rw [fold16B k HK.out]; refine (conv _ _ _ _ _ (keys_any k _)).mono ?_; rintro e w2 ⟨rfl, rfl⟩))
  have hB0 : Blk w1 (w.heap.size + 1 + 1) 24 (cellsB zeroK).toArray := (blk_a2 w _ _ (cellsB zeroK).toArray 24).below' hb1
  have hb01 : Below w.heap.size w w1 := (alloc3_bel w _ _ _).trans (hb1.mono (alloc3_bel w _ _ _).size)
  obtain ⟨WS, hWS⟩ : ∃ W : World, W = (w1.alloc (.cells #[.int .u64 ((wds b).1.toNat : Int), .int .u64 ((wds b).2.toNat : Int)] 167)).alloc (.cells (cellsB k).toArray 24) := ⟨_, rfl⟩
  have sWS : WS.heap.size = w1.heap.size + 1 + 1 := by rw [hWS]; simp
  have bP : Blk WS w1.heap.size 167 #[.int .u64 ((wds b).1.toNat : Int), .int .u64 ((wds b).2.toNat : Int)] := by rw [hWS]; exact blk_b0 _ _ _ _
  have bK : Blk WS (w1.heap.size + 1) 24 (cellsB k).toArray := by rw [hWS]; exact blk_b1 _ _ _ _
  have bR : Blk WS (w.heap.size + 1 + 1) 24 (cellsB zeroK).toArray := by rw [hWS]; exact (hB0.alloc _).alloc _
  have b0S : Below w.heap.size w WS := by rw [hWS]; exact hb01.trans ((alloc2_bel w1 _ _).mono hb01.size)
  rw [← hWS]
  have HRD : Hid (∀ (p : W2) (u : UInt64) W', CallsIn F 3 Tryz.prog 112 #[.agg #[.int .u64 (p.1.toNat : Int), .int .u64 (p.2.toNat : Int)], .int .u64 (u.toNat : Int)] W' fun e w' => e = .returned (.agg #[.int .u64 ((rnd u p).1.toNat : Int), .int .u64 ((rnd u p).2.toNat : Int)]) ∧ Below W'.heap.size W' w') := fun p u W' => conv _ _ _ _ _ (round_any p u W')
  have HBL : Hid (∀ (p : W2) W', CallsIn F 5 Tryz.prog 108 #[.agg #[.int .u64 (p.1.toNat : Int), .int .u64 (p.2.toNat : Int)]] W' fun e w' => e = .returned (.agg (cellsB (blk p)).toArray) ∧ Below W'.heap.size W' w') := fun p W' => conv _ _ _ _ _ (block_any p W')
  clear hck hkl hbl hWS hB0
  refine wpIn_range_box (xs := List.range 32) hro (by omega) (gf := 154) (lb := #[.pointer (some ⟨w1.heap.size + 1, 0, none⟩)]) rfl (hfn _) (enters_of Tryz.func154 (by kernel_rfl) rfl)
    (keys1_in F 5 (w1.heap.size + 1) hfn hro (by omega) conv (w1.heap.size + 1) k HK.out WS bK (by omega)) KpM.trans (fun W l o o' _ h ho => KpM.put W l o o' h ho) (Below.refl _ _) (fun _ => rfl)
    (fun pre W => Blk W w1.heap.size 167 #[.int .u64 ((enW (wds k) (wds b) pre.length).1.toNat : Int), .int .u64 ((enW (wds k) (wds b) pre.length).2.toNat : Int)] ∧ Blk W (w.heap.size + 1 + 1) 24 (cellsB zeroK).toArray ∧ Below w.heap.size w W)
    ?hI ⟨bP, bR, b0S⟩ (fun x => { tmps := #[.agg (cellsB k).toArray, .agg (cellsB b).toArray, .pointer (some ⟨w.heap.size, 0, none⟩), .pointer (some ⟨w.heap.size + 1, 0, none⟩), .pointer (some ⟨w.heap.size + 1 + 1, 0, none⟩), .pointer (some ⟨w1.heap.size, 0, none⟩), undef, .int .u64 ((ksS (wds k) x).2.toNat : Int), .agg (cellsB b).toArray,
      .agg #[.int .u64 ((wds b).1.toNat : Int), .int .u64 ((wds b).2.toNat : Int)], .agg (cellsB k).toArray, .func (.func 154) #[] #[.pointer (some ⟨w1.heap.size + 1, 0, none⟩)], .int .i64 (x : Int), .int .u64 ((ksS (wds k) x).2.toNat : Int), undef, undef, undef, undef, undef], defers := [] }) ?assign ?body ?done
  case hI =>
    rintro pre X Y row ⟨i1, i2, i3⟩ hg hr
    exact ⟨(hg.block _ i1.lt (fun e => by have := hr _ e.symm; omega)).trans i1, (hg.block _ i2.lt (fun e => by have := hr _ e.symm; omega)).trans i2, i3.grown hg i3.size (fun g e => by have := hr g e; have := b0S.size; omega)⟩
  case assign =>
    intro l x W K hK
    unfold keyE
    gi_wp2
    exact hK
  case body =>
    rintro l pre x W ⟨i1, i2, i3⟩ ⟨rest, hrest⟩
    have hx : x = pre.length := by
      have := congrArg (fun l => l[pre.length]?) hrest
      simp only [List.getElem?_append_right (Nat.le_refl _), Nat.sub_self, List.getElem?_cons_zero] at this
      rcases Nat.lt_or_ge pre.length 32 with h | h
      · rw [List.getElem?_range h] at this
        injection this with this
        exact this.symm
      · rw [List.getElem?_eq_none (by simpa using h)] at this; cases this
    obtain ⟨p, hp⟩ : ∃ p, enW (wds k) (wds b) pre.length = p := ⟨_, rfl⟩
    have HN : Hid (enW (wds k) (wds b) (pre ++ [x]).length = rnd (ksS (wds k) x).2 p) := by
      unfold Hid
      rw [List.length_append, show [x].length = 1 from rfl, enW, hp, hx]
    rw [hp] at i1
    have c0 := i1.cell 0
    have c1 := i1.cell 1
    simp only [List.getElem?_toArray, List.getElem?_cons_zero, List.getElem?_cons_succ] at c0 c1
    obtain ⟨u, hu⟩ : ∃ u, (ksS (wds k) x).2 = u := ⟨_, rfl⟩
    rw [hu] at HN ⊢
    have I1 := Lib.hid i1
    have I2 := Lib.hid i2
    have LT1 := Lib.hid i2.lt
    clear hp hx hu hrest i1 i2
    gi_wp2_with (gi_at_call 112; refine (CallsIn.inRound l (HRD.out p u _)).mono ?_; rintro e w4 ⟨rfl, hb4⟩; have hB4 := I1.out.below' hb4; have f0 := hB4.frozen 0; have f1 := hB4.frozen 1; have g0 := hB4.cell 0; have g1 := hB4.cell 1; simp only [List.getElem?_toArray, List.getElem?_cons_zero, List.getElem?_cons_succ] at g0 g1; have HB4 := Lib.hid hB4; clear hB4)
    have kf0 : KeepsFrom WS.heap.size W w4 := ⟨hb4.size, fun k o _ hk ho => (hb4.block k (Array.getElem?_eq_some_iff.1 hk).1).trans hk⟩
    have kf := (kf0.trans ((KeepsOthers.setCell w4 ⟨w1.heap.size, 0, none⟩ (.int .u64 ((rnd u p).1.toNat : Int))).from WS.heap.size)).trans ((KeepsOthers.setCell (w4.setCell ⟨w1.heap.size, 0, none⟩ (.int .u64 ((rnd u p).1.toNat : Int))) ⟨w1.heap.size, 1, none⟩ (.int .u64 ((rnd u p).2.toNat : Int))).from WS.heap.size)
    refine ⟨kf, ?_, ?_, ?_, ?_⟩
    · intro j cs t fr hj hc
      exact ((Below.heap_setCell _ ⟨w1.heap.size, 1, none⟩ _ j (by simp; omega)).trans (Below.heap_setCell _ ⟨w1.heap.size, 0, none⟩ _ j (by simp; omega))).trans (hb4.block j (Array.getElem?_eq_some_iff.1 hc).1)
    · rw [HN.out]
      simpa using (HB4.out.set_ 0 (.int .u64 ((rnd u p).1.toNat : Int))).set_ 1 (.int .u64 ((rnd u p).2.toNat : Int))
    · exact ((I2.out.below' hb4).far (p := ⟨w1.heap.size, 0, none⟩) (by simp; omega) _).far (p := ⟨w1.heap.size, 1, none⟩) (by simp; omega) _
    · exact ((i3.trans (hb4.mono i3.size)).setCell (p := ⟨w1.heap.size, 0, none⟩) (by simp; omega) _).setCell (p := ⟨w1.heap.size, 1, none⟩) (by simp; omega) _
  case done =>
    rintro D W hD ⟨i1, i2, i3⟩ hK
    rw [List.length_range] at i1
    have HE : Hid (encS k b = blk (enW (wds k) (wds b) 32)) := rfl
    obtain ⟨p, hp⟩ : ∃ p, enW (wds k) (wds b) 32 = p := ⟨_, rfl⟩
    rw [hp] at i1 HE
    have c0 := i1.cell 0
    have c1 := i1.cell 1
    simp only [List.getElem?_toArray, List.getElem?_cons_zero, List.getElem?_cons_succ] at c0 c1
    have hl : (cellsB (blk p)).length = 16 := rfl
    have hall : (cellsB (blk p)).all (·.oneCell') = true := List.all_eq_true.2 (cellsB_one _)
    have I2 := Lib.hid i2
    clear hp i1 i2
    gi_wp2_with (gi_at_call 108; refine (HBL.out p _).mono ?_; rintro e w5 ⟨rfl, hb5⟩; have hB5 := I2.out.below' hb5; have hr5 : (rowAt w5 (w.heap.size + 1 + 1)).size = 16 := by { rw [hB5.row]; rfl }; have hf5 := hB5.free; have HB5 := Lib.hid hB5; clear hB5)
    have hD2 : D < W.heap.size := (Array.getElem?_eq_some_iff.1 hK).1
    have hB6 := HB5.out.setRow (cellsB (blk p)).toArray
    have hDne : D ≠ w.heap.size + 1 + 1 := by omega
    have hK' : (w5.setRow (w.heap.size + 1 + 1) (cellsB (blk p)).toArray).heap[D]? = some (.deferred (some [])) := (setRow_other _ _ _ _ hDne).trans ((hb5.block D hD2).trans hK)
    have hB7 : Blk ((w5.setRow (w.heap.size + 1 + 1) (cellsB (blk p)).toArray).putObj D (.deferred none)) (w.heap.size + 1 + 1) 24 (cellsB (blk p)).toArray := (World.putObj_heap_other (by omega)).trans hB6
    have hbel : Below w.heap.size w (w5.setRow (w.heap.size + 1 + 1) (cellsB (blk p)).toArray) := below_setRow (i3.trans (hb5.mono i3.size)) (by omega) _
    refine ⟨by simp, .inl ⟨_, _, rfl, run_takeDeferred hK', ?_⟩⟩
    exact ⟨.agg (cellsB (blk p)).toArray, results_cell_row rfl _ _ (w.heap.size + 1 + 1) _ _ (0, 0) _ rfl hB7 under_key rfl (cellsB_size _ rfl), by rw [HE.out], hbel.trans (belowK_b (w := w) (Nat.le_refl _) _ D _ _ (by have := b0S.size; omega) hK' rfl rfl)⟩
end Go.Proofs.YtinpiodfpnbllaaGreatDoor

/- What is derived; a number below most: the program. -/
namespace Go.Proofs.YtinpiodfpnbllaaGreatDoor
open Go.RowKit Go.Shelf
set_option linter.unusedVariables false
attribute [local go_sem] run_storeCells_key

theorem tag_word (t : UInt8) (c : UInt64) : bits .or .u64 ((t.toNat : Int) * 72057594037927936) (c.toNat : Int) = ((t.toUInt64 <<< 56 ||| c).toNat : Int) := by
  rw [show (t.toNat : Int) * 72057594037927936 = IntKind.u64.wrap ((t.toNat : Int) * 72057594037927936) from by rw [IntKind.wrap_u64]; have := t.toNat_lt; omega]
  rw [show (t.toNat : Int) = (t.toUInt64.toNat : Int) from by rw [UInt8.toNat_toUInt64], u64_shl56, u64_or]
theorem all16 (l : List UInt8) : (cellsB l).all (·.oneCell') = true := List.all_eq_true.2 (cellsB_one _)

set_option maxHeartbeats 1000000 in
theorem blockOf_any (t : UInt8) (c n : UInt64) (w : World) : Calls Tryz.prog 111 #[.int .u8 (t.toNat : Int), .int .u64 (c.toNat : Int), .int .u64 (n.toNat : Int)] w fun e w' => e = .returned (.agg (cellsB (tagS t c n)).toArray) ∧ Below w.heap.size w w' := by
  have HZ := Lib.hid zero16
  have ht : (t.toNat : Int) ≤ 255 := by have := t.toNat_lt; omega
  have hc := u64_bd c
  have HT := Lib.hid (tag_word t c)
  have HE : Hid (tagS t c n = blk (t.toUInt64 <<< 56 ||| c, n)) := rfl
  obtain ⟨p, hp⟩ : ∃ p : W2, (t.toUInt64 <<< 56 ||| c, n) = p := ⟨_, rfl⟩
  have hl : (cellsB (blk p)).length = 16 := rfl
  have hall := all16 (blk p)
  rw [hp] at HE
  have HP : Hid ((t.toUInt64 <<< 56 ||| c) = p.1) := congrArg Prod.fst hp
  have HP2 : Hid (n = p.2) := congrArg Prod.snd hp
  clear hp
  go_enter Tryz.func111, Tryz.ntmps111
  go_wp2_with (go_at_call 108; rw [HT.out, HP.out, HP2.out, HZ.out]; refine (block_any p _).mono ?_; rintro e w1 ⟨rfl, hb1⟩; have hB1 := (Blk.new w 24 (cellsB zeroK).toArray).below' hb1; have hr1 : (rowAt w1 w.heap.size).size = 16 := by { rw [hB1.row]; rfl }; have hf1 := hB1.free; have HB1 := Lib.hid hB1; clear hB1)
  exact bodyPost_ret (results_cell_row rfl _ _ w.heap.size _ _ (0, 0) _ rfl (HB1.out.setRow (cellsB (blk p)).toArray) under_key rfl (cellsB_size _ rfl)) rfl ⟨by rw [HE.out], below_setRow ((alloc_bel _ _).trans (hb1.mono (alloc_bel _ _).size)) (Nat.le_refl _) _⟩

theorem blockOf_zero (t : UInt8) (n : UInt64) (w : World) : Calls Tryz.prog 111 #[.int .u8 (t.toNat : Int), .int .u64 0, .int .u64 (n.toNat : Int)] w fun e w' => e = .returned (.agg (cellsB (tagS t 0 n)).toArray) ∧ Below w.heap.size w w' := blockOf_any t 0 n w
set_option maxHeartbeats 1000000 in
theorem Derive_any (k : List UInt8) (t : UInt8) (n : UInt64) (w : World) (hk : k.length = 16) : Calls Tryz.prog 49 #[.agg (cellsB k).toArray, .int .u8 (t.toNat : Int), .int .u64 (n.toNat : Int)] w fun e w' => e = .returned (.agg (cellsB (derS k t n)).toArray) ∧ Below w.heap.size w w' := by
  have HK := Lib.hid hk
  have HZ := Lib.hid zero16
  have hkl : (cellsB k).length = 16 := by rw [cellsB_length, hk]
  have HE : Hid (derS k t n = encS k (tagS t 0 n)) := rfl
  have hl : (cellsB (encS k (tagS t 0 n))).length = 16 := rfl
  have hall := all16 (encS k (tagS t 0 n))
  clear hk
  go_enter Tryz.func49, Tryz.ntmps49
  go_wp2_with fail
  rw [HZ.out]
  go_region_with (first
    | (go_at_call 111; refine (blockOf_zero t n _).mono ?_; rintro e w1 ⟨rfl, hb1⟩; have hck : ∀ j, w1.cell? ⟨w.heap.size, j, none⟩ = (cellsB k).toArray[j]? := fun j => ((blk_b0 w (cellsB k).toArray 24 _).drew.below' hb1).cell j)
    | (go_at_call 51; rw [fold16B k HK.out]; refine (Encrypt_any k (tagS t 0 n) _ HK.out rfl).mono ?_; rintro e w2 ⟨rfl, hb2⟩; have hB2 := ((blk_b1 w (.cells (cellsB k).toArray 24) (cellsB zeroK).toArray 24).drew.below' hb1).below' hb2; have hr2 : (rowAt w2 (w.heap.size + 1)).size = 16 := by { rw [hB2.row]; rfl }; have hf2 := hB2.free; have HB2 := Lib.hid hB2; clear hB2))
  all_goals
    go_wp2_with fail
    exact bodyPost_ret (results_cell_row rfl _ _ (w.heap.size + 1) _ _ (0, 0) _ rfl (HB2.out.setRow (cellsB (encS k (tagS t 0 n))).toArray) under_key rfl (cellsB_size _ rfl)) rfl ⟨by rw [HE.out], below_setRow (((alloc2_bel w _ _).drew.trans (hb1.mono (alloc2_bel w _ _).size)).trans (hb2.mono (Nat.le_trans (alloc2_bel w _ _).size hb1.size))) (by omega) _⟩

theorem numS_pos {k : List UInt8} {n most : UInt64} (h : most ≠ 0) : numS k n most = (wds (derS k 3 n)).1 % most := by rw [numS, if_neg h]
theorem numS_zero {k : List UInt8} {n : UInt64} : numS k n 0 = 0 := by rw [numS, if_pos rfl]
end Go.Proofs.YtinpiodfpnbllaaGreatDoor

/- What the frames of the laws share: bytes, keys, integers, and rows of these among the arguments, opened. -/
namespace Go.Proofs.YtinpiodfpnbllaaGreatDoor
open Go.ChangeShapes Go.WideShapes Go.ChangeAt Go.RowKit Go.Deep
set_option linter.unusedVariables false

theorem weights_of_ {H : Type} {P : Program} {ts : List TypeId} {ds : List (DataW H)} (h : (DataW.weightsEach P ts ds).all (· ≤ reachBytes) = true) {j : Nat} {t : TypeId} {d : DataW H} (ht : ts[j]? = some t) (hd : ds[j]? = some d) :
    ∀ n ∈ d.weights P t, n ≤ reachBytes := fun n hn => by
  simpa using List.all_eq_true.1 h _ (DataW.weights_mem_each ht hd n hn)
theorem weights_all_mem {H : Type} {P : Program} {e : TypeId} {l : List (DataW H)} {d : DataW H} (hd : d ∈ l) {n : Nat} (hn : n ∈ d.weights P e) : n ∈ DataW.weightsAll P e l := by
  induction l with
  | nil => cases hd
  | cons x l ih =>
    rcases List.mem_cons.1 hd with rfl | h
    · exact List.mem_append.2 (.inl hn)
    · exact List.mem_append.2 (.inr (ih h))

/-- A slice that came in, element by element. -/
theorem slice_of_trod {H : Type} {enc : TypeId × Value → H} {P : Program} {W : World} {fuel : Nat} {t e : TypeId} {cs : List Value} {x : DataW H × List MemPlace} {s by_ : Nat} (ht : P.underlying t = some (.slice e)) (hs : P.cellsOf e = s) (hs0 : 0 < s) (hby : P.bytesOf e = by_) (h : DataW.trod enc P W 0 (fun _ => true) true fuel t cs = some x)
    (hw : ∀ n ∈ x.1.weights P t, n ≤ reachBytes) :
    ∃ (A : Option Addr) (len cap m : Nat) (C : Nat → List Value) (D : Nat → DataW H × List MemPlace), cs = [.slice A len cap] ∧ len ≤ cap ∧ cap ≤ 9223372036854775807 ∧ cap * by_ ≤ 140737488351232 ∧
      (len ≠ 0 → ∃ b off, A = some ⟨b, off, none⟩ ∧ b < W.heap.size ∧ ∀ i, i < len → ∀ j v, (C i)[j]? = some v → W.cell? ⟨b, off + (i * s + j), none⟩ = some v) ∧
      ∀ i, i < len → (C i).length = s ∧ DataW.trod enc P W 0 (fun _ => true) true m e (C i) = some (D i) ∧ ∀ n ∈ (D i).1.weights P e, n ≤ reachBytes := by
  rcases open_slice ht h with ⟨rfl, rfl⟩ | ⟨a, len, cap, m, n, D, Pl, rfl, _, hle, hm, hmm, rfl, hx⟩
  · exact ⟨none, 0, 0, 0, fun _ => [], fun _ => (.nil, []), rfl, Nat.le_refl _, by omega, by omega, fun h => absurd rfl h, fun i hi => absurd hi (by omega)⟩
  · simp only [if_true] at hmm
    subst hmm
    have hcap : m * by_ ≤ 140737488351232 := by
      have := hw ((len + (m - len)) * by_) (by simp [DataW.weights, ht, hby])
      simp only [reachBytes] at this
      rw [show len + (m - len) = m from by omega] at this
      exact this
    obtain ⟨C, hC⟩ := choose_lt (α := List Value) (p := fun i cs' => W.cells? 0 (a.add (i * P.cellsOf e)) (P.cellsOf e) = some cs' ∧ DataW.trod enc P W 0 (fun _ => true) true n e cs' = some (D i, Pl i)) (fun i hi => hx i hi)
    refine ⟨some a, len, m, n, C, fun i => (D i, Pl i), rfl, hle, by simpa [maxLen] using hm, hcap, fun h0 => ?_, fun i hi => ?_⟩
    · have h0' := hC 0 (by omega)
      obtain ⟨_, hl0, hc0⟩ := World.cells?_some h0'.1
      rw [hs] at hl0 hc0
      have hc00 := hc0 0 hs0
      rw [Nat.zero_mul, add_add, List.getElem?_eq_getElem (show 0 < (C 0).length by omega)] at hc00
      obtain ⟨b, off, spot⟩ := a
      have hspot : spot = none := by simpa [Addr.add] using World.cell?_spot hc00
      subst hspot
      refine ⟨b, off, rfl, by have := World.block_lt_of_cell? W _ hc00; simpa [Addr.add] using this, fun i hi j v hv => ?_⟩
      obtain ⟨_, hl, hc⟩ := World.cells?_some (hC i (by omega)).1
      rw [hs] at hl hc
      have hj : j < (C i).length := by
        rcases Nat.lt_or_ge j (C i).length with h' | h'
        · exact h'
        · rw [List.getElem?_eq_none h'] at hv; cases hv
      have := hc j (by omega)
      rw [add_add, Addr.add_lit, hv] at this
      exact this
    · obtain ⟨h1, h2⟩ := hC i (by omega)
      obtain ⟨_, hl, _⟩ := World.cells?_some h1
      refine ⟨by rw [hl, hs], h2, fun k hk => hw k ?_⟩
      simp only [DataW.weights, ht, List.mem_cons, List.mem_append]
      exact .inr (.inl (weights_all_mem (List.mem_map.2 ⟨i, List.mem_range.2 hi, rfl⟩) hk))

/-- .. as one row of cells. -/
theorem rd_of_cells {W : World} {A : Option Addr} {len cap s by_ : Nat} {C : Nat → List Value} (hle : len ≤ cap) (hcap : cap ≤ 9223372036854775807) (hlen : len ≤ 140737488351232) (hl : ∀ i, i < len → (C i).length = s)
    (h : len ≠ 0 → ∃ b off, A = some ⟨b, off, none⟩ ∧ b < W.heap.size ∧ ∀ i, i < len → ∀ j v, (C i)[j]? = some v → W.cell? ⟨b, off + (i * s + j), none⟩ = some v) : Rd W s A cap len ((List.range len).flatMap C) := by
  have hg : ∀ n, n ≤ len → ((List.range n).flatMap C).length = n * s := by
    intro n
    induction n with
    | zero => intro _; simp
    | succ n ih =>
      intro hn
      rw [List.range_succ, List.flatMap_append, List.length_append, ih (by omega)]
      simp [hl n (by omega), Nat.succ_mul]
  have hget : ∀ n, n ≤ len → ∀ k v, ((List.range n).flatMap C)[k]? = some v → ∃ i j, i < n ∧ k = i * s + j ∧ (C i)[j]? = some v := by
    intro n
    induction n with
    | zero => intro _ k v hv; simp at hv
    | succ n ih =>
      intro hn k v hv
      rw [List.range_succ, List.flatMap_append] at hv
      rcases Nat.lt_or_ge k (n * s) with hk | hk
      · rw [List.getElem?_append_left (by rw [hg n (by omega)]; exact hk)] at hv
        obtain ⟨i, j, hi, e, hc⟩ := ih (by omega) k v hv
        exact ⟨i, j, by omega, e, hc⟩
      · rw [List.getElem?_append_right (by rw [hg n (by omega)]; exact hk), hg n (by omega)] at hv
        simp only [List.flatMap_cons, List.flatMap_nil, List.append_nil] at hv
        exact ⟨n, k - n * s, by omega, by omega, hv⟩
  refine ⟨⟨hg len (Nat.le_refl _), hle, hcap, hlen⟩, fun hn => ?_⟩
  obtain ⟨b, off, e, hb, hc⟩ := h hn
  refine ⟨b, off, e, hb, fun k v hv => ?_⟩
  obtain ⟨i, j, hi, rfl, hv'⟩ := hget len (Nat.le_refl _) k v hv
  exact hc i hi j v hv'

theorem u8_of_trod {H : Type} {enc : TypeId × Value → H} {W : World} {fuel : Nat} {cs : List Value} {x : DataW H × List MemPlace} (h : DataW.trod enc Tryz.prog W 0 (fun _ => true) true fuel 5 cs = some x) : ∃ u : UInt8, cs = [.int .u8 (u.toNat : Int)] := by
  obtain ⟨n, rfl, _, hwf⟩ := DataW.trod_int Tryz.underlying5 h
  have := bounds_u8 hwf
  refine ⟨UInt8.ofNat n.toNat, ?_⟩
  congr 2
  simp only [UInt8.toNat_ofNat']
  omega
theorem bytes_u8 : Tryz.prog.bytesOf 5 = 1 := by kernel_rfl
theorem cells_u8 : Tryz.prog.cellsOf 5 = 1 := by kernel_rfl
theorem flat_bytes (U : Nat → UInt8) (C : Nat → List Value) (n : Nat) (h : ∀ i, i < n → C i = [.int .u8 ((U i).toNat : Int)]) : (List.range n).flatMap C = cellsB ((List.range n).map U) := by
  rw [List.flatMap_def, List.map_congr_left (g := fun i => [Value.int .u8 ((U i).toNat : Int)]) (fun i hi => h i (List.mem_range.1 hi))]
  simp [cellsB]
  induction n with
  | zero => rfl
  | succ n ih => rw [List.range_succ]; simp [ih (fun i hi => h i (by omega))]

/-- Bytes. -/
theorem bytes_of_trod {H : Type} {enc : TypeId × Value → H} {W : World} {fuel : Nat} {t : TypeId} {cs : List Value} {x : DataW H × List MemPlace} (ht : Tryz.prog.underlying t = some (.slice 5)) (h : DataW.trod enc Tryz.prog W 0 (fun _ => true) true fuel t cs = some x)
    (hw : ∀ n ∈ x.1.weights Tryz.prog t, n ≤ reachBytes) : ∃ A c l, cs = [.slice A (List.length l) c] ∧ BR W A c l := by
  obtain ⟨A, len, cap, m, C, D, rfl, hle, hcap, hby, hcell, hel⟩ := slice_of_trod ht cells_u8 (by omega) bytes_u8 h hw
  obtain ⟨U, hU⟩ := choose_lt (α := UInt8) (p := fun i u => C i = [.int .u8 (u.toNat : Int)]) (fun i hi => u8_of_trod (hel i hi).2.1)
  have hrd := rd_of_cells (by_ := 1) hle hcap (by omega) (fun i hi => (hel i hi).1) hcell
  rw [flat_bytes U C len hU] at hrd
  refine ⟨A, cap, (List.range len).map U, by simp, ?_⟩
  unfold BR
  simpa using hrd

/-- A key. -/
def keyV (k : List UInt8) : Value := .agg (cellsB k).toArray
theorem key_of_trod {H : Type} {enc : TypeId × Value → H} {W : World} {fuel : Nat} {cs : List Value} {x : DataW H × List MemPlace} (h : DataW.trod enc Tryz.prog W 0 (fun _ => true) true fuel 24 cs = some x) : ∃ k : List UInt8, k.length = 16 ∧ cs = cellsB k := by
  obtain ⟨xs, m, _, _, hl, hn, hel⟩ := DataW.trod_array Tryz.underlying24 h
  rw [show Tryz.prog.cellsOf 24 = 16 from by kernel_rfl] at hl
  rw [cells_u8] at hel
  obtain ⟨U, hU⟩ := choose_lt (α := UInt8) (n := 16) (p := fun i u => (cs.drop (i * 1)).take 1 = [.int .u8 (u.toNat : Int)]) (fun i hi => by
    have h1 := hel i hi
    rw [List.getElem?_eq_getElem (by omega)] at h1
    exact u8_of_trod h1)
  refine ⟨(List.range 16).map U, by simp, ?_⟩
  refine List.ext_getElem (by simp [cellsB, hl]) fun i hi hi2 => ?_
  have h1 := hU i (by omega)
  rw [Nat.mul_one, List.drop_eq_getElem_cons hi] at h1
  simp only [List.take_succ_cons, List.take_zero, List.cons.injEq, and_true] at h1
  rw [h1]
  simp [cellsB]
/-- Integers. -/
def cellsI (l : List Int) : List Value := l.map fun x => .int .i64 x
def IR (w : World) (A : Option Addr) (c : Nat) (l : List Int) : Prop := Rd w 1 A c l.length (cellsI l) ∧ ∀ x ∈ l, -9223372036854775808 ≤ x ∧ x ≤ 9223372036854775807
theorem cells_int : Tryz.prog.cellsOf 3 = 1 := by kernel_rfl
theorem bytes_int : Tryz.prog.bytesOf 3 = 8 := by kernel_rfl
theorem int_of_trod {H : Type} {enc : TypeId × Value → H} {W : World} {fuel : Nat} {cs : List Value} {x : DataW H × List MemPlace} (h : DataW.trod enc Tryz.prog W 0 (fun _ => true) true fuel 3 cs = some x) : ∃ u : Int, cs = [.int .i64 u] ∧ -9223372036854775808 ≤ u ∧ u ≤ 9223372036854775807 := by
  obtain ⟨n, rfl, _, hwf⟩ := DataW.trod_int Tryz.underlying3 h
  have := bounds_i64 hwf
  exact ⟨n, rfl, by omega⟩
theorem flat_ints (U : Nat → Int) (C : Nat → List Value) (n : Nat) (h : ∀ i, i < n → C i = [.int .i64 (U i)]) : (List.range n).flatMap C = cellsI ((List.range n).map U) := by
  rw [List.flatMap_def, List.map_congr_left (g := fun i => [Value.int .i64 (U i)]) (fun i hi => h i (List.mem_range.1 hi))]
  simp [cellsI]
  induction n with
  | zero => rfl
  | succ n ih => rw [List.range_succ]; simp [ih (fun i hi => h i (by omega))]
theorem ints_of_trod {H : Type} {enc : TypeId × Value → H} {W : World} {fuel : Nat} {t : TypeId} {cs : List Value} {x : DataW H × List MemPlace} (ht : Tryz.prog.underlying t = some (.slice 3)) (h : DataW.trod enc Tryz.prog W 0 (fun _ => true) true fuel t cs = some x)
    (hw : ∀ n ∈ x.1.weights Tryz.prog t, n ≤ reachBytes) : ∃ A c l, cs = [.slice A (List.length l) c] ∧ IR W A c l ∧ c * 8 ≤ 140737488351232 := by
  obtain ⟨A, len, cap, m, C, D, rfl, hle, hcap, hby, hcell, hel⟩ := slice_of_trod ht cells_int (by omega) bytes_int h hw
  obtain ⟨U, hU⟩ := choose_lt (α := Int) (p := fun i u => C i = [.int .i64 u] ∧ -9223372036854775808 ≤ u ∧ u ≤ 9223372036854775807) (fun i hi => int_of_trod (hel i hi).2.1)
  have hrd := rd_of_cells (by_ := 8) hle hcap (by omega) (fun i hi => (hel i hi).1) hcell
  rw [flat_ints U C len (fun i hi => (hU i hi).1)] at hrd
  refine ⟨A, cap, (List.range len).map U, by simp, ⟨by simpa using hrd, fun x hx => ?_⟩, hby⟩
  obtain ⟨i, hi, rfl⟩ := List.mem_map.1 hx
  exact (hU i (List.mem_range.1 hi)).2



set_option maxRecDepth 100000 in
theorem slice_val {P : Program} {W : World} {b0 : Nat} {t e : TypeId} {v : Value} {A : Option Addr} {n c : Nat} (ht : P.underlying t = some (.slice e)) (hval : Value.okWide P W .any b0 t v) (h : v.cells.toList = [.slice A n c]) : v = .slice A n c := by
  obtain ⟨a, l, c', hv⟩ := okWide_slice ht hval
  subst hv
  simpa [Value.cells] using h
set_option maxRecDepth 100000 in
theorem open_bytes {H : Type} {enc : TypeId × Value → H} {W : World} {b0 : Nat} {v : Value} {d : DataW H} {ps : List MemPlace} (hval : Value.okWide Tryz.prog W .any b0 22 v) (hd : DataW.Trod enc Tryz.prog W 0 (fun _ => true) true 22 v d ps)
    (hw : ∀ n ∈ d.weights Tryz.prog 22, n ≤ reachBytes) : ∃ A c z, v = .slice A (List.length z) c ∧ BR W A c z := by
  obtain ⟨fuel, hf⟩ := hd
  obtain ⟨A, c, z, e, h⟩ := bytes_of_trod Tryz.underlying22 hf hw
  exact ⟨A, c, z, slice_val Tryz.underlying22 hval e, h⟩
end Go.Proofs.YtinpiodfpnbllaaGreatDoor

/- The stream of a key: the program's. -/
namespace Go.Proofs.YtinpiodfpnbllaaGreatDoor
open Go.RowKit
set_option linter.unusedVariables false
attribute [local go_sem] run_storeCells_key

/-- A byte of the stream xor a byte; the stream xor some bytes, or the error. -/
def stB1 (k : List UInt8) (n : UInt64) (b : List UInt8) (i : Nat) : UInt8 := b.getD i 0 ^^^ (encS k (tagS 1 (UInt64.ofNat (i / 16)) n)).getD (i % 16) 0
def streamS (k : List UInt8) (n : UInt64) (b : List UInt8) : List UInt8 := (List.range b.length).map (stB1 k n b)
def stP (k : List UInt8) (n : UInt64) (b : List UInt8) (i : Nat) : List UInt8 := (List.range b.length).map fun j => if j < i then stB1 k n b j else 0
def strR (k : List UInt8) (n : UInt64) (b : List UInt8) : List UInt8 × Int := if 16384 < b.length then ([], 4) else (streamS k n b, 0)
theorem streamS_length (k : List UInt8) (n : UInt64) (b : List UInt8) : (streamS k n b).length = b.length := by simp [streamS]
theorem stP_length (k : List UInt8) (n : UInt64) (b : List UInt8) (i : Nat) : (stP k n b i).length = b.length := by simp [stP]
theorem stP_zero (k : List UInt8) (n : UInt64) (b : List UInt8) : stP k n b 0 = List.replicate b.length 0 := by
  refine List.ext_getElem (by simp [stP]) fun i h1 h2 => ?_
  simp [stP]
theorem stP_fin (k : List UInt8) (n : UInt64) (b : List UInt8) : stP k n b b.length = streamS k n b := by
  refine List.ext_getElem (by simp [stP, streamS]) fun i h1 h2 => ?_
  have : i < b.length := by simpa [stP] using h1
  simp [stP, streamS, this]
theorem stP_set {k : List UInt8} {n : UInt64} {b : List UInt8} {i : Nat} (hi : i < b.length) : (stP k n b i).set i (stB1 k n b i) = stP k n b (i + 1) := by
  refine List.ext_getElem (by simp [stP]) fun j h1 h2 => ?_
  simp only [stP, List.getElem_set, List.getElem_map, List.getElem_range]
  by_cases e : i = j
  · subst e; simp
  · rw [if_neg e]
    have : (j < i) ↔ (j < i + 1) := by omega
    simp [this]
theorem xor_u8 (a b : UInt8) : bits .xor .u8 (a.toNat : Int) (b.toNat : Int) = ((a ^^^ b).toNat : Int) := by
  rw [u8_xor_nat _ _ a.toNat_lt b.toNat_lt, UInt8.toNat_xor]
theorem wrap_sixteenth {i : Nat} (h : i < 20000) : IntKind.u64.wrap (IntKind.i64.wrap ((i : Int) / (16 : Int))) = ((UInt64.ofNat (i / 16)).toNat : Int) := by
  rw [UInt64.toNat_ofNat', Nat.mod_eq_of_lt (by omega), IntKind.wrap_i64, IntKind.wrap_u64]
  omega

set_option maxHeartbeats 2000000 in
set_option maxRecDepth 100000 in
theorem Stream_any (k : List UInt8) (n : UInt64) (A : Option Addr) (c : Nat) (b : List UInt8) (w : World) {L : Nat} (hL : b.length = L) (h : BR w A c b) (hk : k.length = 16) :
    Calls Tryz.prog 50 #[.agg (cellsB k).toArray, .int .u64 (n.toNat : Int), .slice A L c] w fun e w' => BytesErr w.heap.size (strR k n b) e w' ∧ Below w.heap.size w w' := by
  have hl0 : (L : Int) ≤ 140737488351232 := by have := h.len; omega
  have HL := Lib.hid hL
  have H := Lib.hid h
  have HK := Lib.hid hk
  have b0 := alloc_bel w (.cells (cellsB k).toArray 24)
  have HZ := Lib.hid zero16
  by_cases hbig : 16384 < L
  · have hbi : (16384 : Int) < L := by omega
    have HS : Hid (strR k n b = ([], 4)) := by unfold Hid strR; rw [if_pos (by omega)]
    clear hL h hk hbig
    go_enter Tryz.func50, Tryz.ntmps50
    go_wp2_with fail
    go_ret2
    exact ⟨bytesErr_nil _ _ _ HS.out, b0⟩
  · have hbi : (L : Int) ≤ 16384 := by omega
    have HS : Hid (strR k n b = (streamS k n b, 0)) := by unfold Hid strR; rw [if_neg (by omega)]
    have hkl : (cellsB k).length = 16 := by rw [cellsB_length, hk]
    have hmk := run_make_row' (P := Tryz.prog) 22 5 (.int .u8 0) 1 Tryz.underlying22 (by kernel_rfl) rfl .i64 .i64 L (by omega) (by omega)
    have HMB := Lib.hid (made_bytes L)
    have HF := Lib.hid (stP_fin k n b)
    clear hL h hk hbig
    go_enter Tryz.func50, Tryz.ntmps50
    go_wp2_with fail
    rw [HMB.out, HZ.out]
    go_loopw [20] (fun vk wr => ∃ (i : Nat) (m : List UInt8), i ≤ L ∧ vk = .int .i64 (i : Int) ∧ Blk wr w.heap.size 24 (cellsB k).toArray ∧ Hid (Blk wr (w.heap.size + 1) 5 (cellsB (stP k n b i)).toArray) ∧ m.length = 16 ∧ Blk wr (w.heap.size + 1 + 1) 24 (cellsB m).toArray ∧ (i % 16 ≠ 0 → m = encS k (tagS 1 (UInt64.ofNat (i / 16)) n)) ∧ Below w.heap.size w wr) (fun vk _ => L - (intOf vk).toNat)
    case atStart => exact ⟨0, zeroK, by omega, rfl, blk_a0 _ _ _ _ _, by rw [stP_zero, HL.out]; exact blk_a1 _ _ _ _ _, rfl, blk_a2 _ _ _ _ _, fun h => absurd rfl h, alloc3_bel _ _ _ _⟩
    case round =>
      obtain ⟨i, m, hi, rfl, hB1, HB2, hm, hB3, hme, hbel⟩ := hrel
      by_cases hin : i < L
      · have hil : i < b.length := by have := HL.out; omega
        obtain ⟨bb, off, rfl, hbb, hc⟩ := (H.out.below hbel).at_ (i := i) hil
        have hii : (i : Int) < L := by omega
        by_cases h16 : i % 16 = 0
        · have HBO : Hid (∀ W, Calls Tryz.prog 111 #[.int .u8 1, .int .u64 (IntKind.u64.wrap (IntKind.i64.wrap ((i : Int) / (16 : Int)))), .int .u64 (n.toNat : Int)] W fun e w' => e = .returned (.agg (cellsB (tagS 1 (UInt64.ofNat (i / 16)) n)).toArray) ∧ Below W.heap.size W w') := fun W => by
            have h1 := blockOf_any 1 (UInt64.ofNat (i / 16)) n W
            rw [← wrap_sixteenth (by omega : i < 20000)] at h1
            exact h1
          obtain ⟨t, ht⟩ : ∃ t, tagS 1 (UInt64.ofNat (i / 16)) n = t := ⟨_, rfl⟩
          have htl : t.length = 16 := by rw [← ht]; rfl
          have HT := Lib.hid ht
          rw [ht] at HBO
          have HTL := Lib.hid htl
          have HSET := Lib.hid (stP_set (k := k) (n := n) hil)
          have HST : Hid (stB1 k n b i = b.getD i 0 ^^^ (encS k t).getD 0 0) := by unfold Hid stB1; rw [ht, h16]
          have hl : (cellsB (encS k t)).length = 16 := rfl
          have hall := all16 (encS k t)
          have hri : (i : Int) % 16 = 0 := by omega
          have hckw := hB1.cell
          have HB1 := Lib.hid hB1
          have HB3 := Lib.hid hB3
          have HM := Lib.hid hm
          clear ht htl hme hil hB1 hB3 hm
          go_wp2_with fail
          go_region_with (first
            | (go_at_call 111; refine (HBO.out _).mono ?_; rintro e w1 ⟨rfl, hb1⟩; have hck : ∀ j, w1.cell? ⟨w.heap.size, j, none⟩ = (cellsB k).toArray[j]? := fun j => (HB1.out.drew.below' hb1).cell j)
            | (go_at_call 51; rw [fold16B k HK.out]; refine (Encrypt_any k t _ HK.out HTL.out).mono ?_; rintro e w2 ⟨rfl, hb2⟩; have hB2 := (HB3.out.drew.below' hb1).below' hb2; have hr2 : (rowAt w2 (w.heap.size + 1 + 1)).size = 16 := by { rw [hB2.row]; simp [cellsB, HM.out] }; have hf2 := hB2.free; have HB2' := Lib.hid hB2; clear hB2))
          all_goals
            have B3 := HB2'.out.setRow (cellsB (encS k t)).toArray
            have B1 : Blk (w2.setRow (w.heap.size + 1 + 1) (cellsB (encS k t)).toArray) w.heap.size 24 (cellsB k).toArray := (setRow_other _ _ _ _ (by omega)).trans ((HB1.out.drew.below' hb1).below' hb2)
            have BO : Blk (w2.setRow (w.heap.size + 1 + 1) (cellsB (encS k t)).toArray) (w.heap.size + 1) 5 (cellsB (stP k n b i)).toArray := (setRow_other _ _ _ _ (by omega)).trans ((HB2.out.drew.below' hb1).below' hb2)
            have hbF : Below w.heap.size w (w2.setRow (w.heap.size + 1 + 1) (cellsB (encS k t)).toArray) := below_setRow ((hbel.drew.trans (hb1.mono hbel.size)).trans (hb2.mono (Nat.le_trans hbel.size hb1.size))) (by omega) _
            clear hl hall hr2 hf2 HB2'
            clear hck hb1 hb2
            generalize w2.setRow (w.heap.size + 1 + 1) (cellsB (encS k t)).toArray = W3 at *
            have c0 := B3.cell 0
            rw [bytes_get _ 0 (by rw [encS_length]; omega)] at c0
            have d0 := BO.cell i
            rw [bytes_get _ i (by rw [stP_length]; have := HL.out; omega)] at d0
            have f0 := BO.frozen i
            have hx1 : (bt b i : Int) ≤ 255 := bt_le b i
            obtain ⟨x, hx⟩ : ∃ x, (encS k t).getD 0 0 = x := ⟨_, rfl⟩
            rw [hx] at c0 HST
            have HB31 := Lib.hid B3
            have HB11 := Lib.hid B1
            have HBO1 := Lib.hid BO
            have HX : Hid (bits .xor .u8 (bt b i : Int) (x.toNat : Int) = ((stB1 k n b i).toNat : Int)) := by unfold Hid; rw [HST.out]; exact xor_u8 _ _
            clear B3 B1 BO hx
            go_wp2_with fail
            rw [HX.out]
            refine ⟨⟨i + 1, encS k t, by omega, by go_num, HB11.out.far (p := ⟨w.heap.size + 1, i, none⟩) (by simp) _, ?_, encS_length _ _, HB31.out.far (p := ⟨w.heap.size + 1, i, none⟩) (by simp) _, fun _ => ?_, hbF.setCell (p := ⟨w.heap.size + 1, i, none⟩) (by simp) _⟩, by simp [intOf]; omega⟩
            · have h := HBO1.out.set_ i (.int .u8 ((stB1 k n b i).toNat : Int))
              rw [bytes_set, HSET.out] at h
              exact h
            · rw [show (i + 1) / 16 = i / 16 from by omega, HT.out]
        · obtain ⟨r, hr⟩ : ∃ r, i % 16 = r := ⟨_, rfl⟩
          have hri : (i : Int) % 16 = (r : Int) := by omega
          have hr1 : 1 ≤ (r : Int) := by omega
          have hr2 : (r : Int) < 16 := by omega
          have hrn : r < 16 := by omega
          have hme' := hme h16
          have HST : Hid (stB1 k n b i = b.getD i 0 ^^^ m.getD r 0) := by unfold Hid stB1; rw [hme', hr]
          have HSET := Lib.hid (stP_set (k := k) (n := n) hil)
          have c0 := hB3.cell r
          rw [bytes_get _ r (by rw [hm]; exact hrn)] at c0
          have d0 := HB2.out.cell i
          rw [bytes_get _ i (by rw [stP_length]; exact hil)] at d0
          have f0 := HB2.out.frozen i
          have hx1 : (bt b i : Int) ≤ 255 := bt_le b i
          obtain ⟨x, hx⟩ : ∃ x, m.getD r 0 = x := ⟨_, rfl⟩
          rw [hx] at c0 HST
          have HX : Hid (bits .xor .u8 (bt b i : Int) (x.toNat : Int) = ((stB1 k n b i).toNat : Int)) := by unfold Hid; rw [HST.out]; exact xor_u8 _ _
          have HB1 := Lib.hid hB1
          have HB3 := Lib.hid hB3
          have HM := Lib.hid hm
          have HME := Lib.hid hme'
          have HR := Lib.hid hr
          have H16 := Lib.hid h16
          clear hx hme hme' hil hB1 hB3 hm hr hrn h16
          go_wp2_with fail
          rw [HX.out]
          refine ⟨⟨i + 1, m, by omega, by go_num, HB1.out.far (p := ⟨w.heap.size + 1, i, none⟩) (by simp) _, ?_, HM.out, HB3.out.far (p := ⟨w.heap.size + 1, i, none⟩) (by simp) _, fun h => ?_, hbel.setCell (p := ⟨w.heap.size + 1, i, none⟩) (by simp) _⟩, by simp [intOf]; omega⟩
          · have h := HB2.out.set_ i (.int .u8 ((stB1 k n b i).toNat : Int))
            rw [bytes_set, HSET.out] at h
            exact h
          · rw [show (i + 1) / 16 = i / 16 from by omega]
            exact HME.out
      · obtain rfl : i = L := by omega
        have HOB : Hid (OB w.heap.size wr (some ⟨w.heap.size + 1, 0, none⟩) i (streamS k n b)) := by
          have h := HB2.out
          have h2 := HF.out
          rw [HL.out] at h2
          rw [h2] at h
          exact h.ob (n := i) (by omega) (by rw [streamS_length, HL.out]) rfl (by omega)
        go_wp2_with fail
        go_ret2
        exact ⟨⟨some ⟨w.heap.size + 1, 0, none⟩, i, by rw [HS.out]; show _ = Ending.returned (.tuple #[.slice (some ⟨w.heap.size + 1, 0, none⟩) (streamS k n b).length i, .int .i64 0]); rw [streamS_length, HL.out]; rfl, by rw [HS.out]; exact HOB.out⟩, hbel⟩
end Go.Proofs.YtinpiodfpnbllaaGreatDoor

/- The reference's Xor. -/
namespace Go.Proofs.YtinpiodfpnbllaaGreatDoor
open Go.RowKit
set_option linter.unusedVariables false
attribute [local go_sem] run_storeCells_key

/-- Two blocks, xor. -/
def xorS (a b : List UInt8) : List UInt8 := (List.range 16).map fun j => a.getD j 0 ^^^ b.getD j 0
def xoP (a b : List UInt8) (i : Nat) : List UInt8 := (List.range 16).map fun j => if j < i then a.getD j 0 ^^^ b.getD j 0 else a.getD j 0
theorem xorS_length (a b : List UInt8) : (xorS a b).length = 16 := by simp [xorS]
theorem xoP_length (a b : List UInt8) (i : Nat) : (xoP a b i).length = 16 := by simp [xoP]
theorem xoP_zero {a : List UInt8} (b : List UInt8) (h : a.length = 16) : xoP a b 0 = a := by
  refine List.ext_getElem (by simp [xoP, h]) fun i h1 h2 => ?_
  simp [xoP, List.getD, List.getElem?_eq_getElem h2]
theorem xoP_fin (a b : List UInt8) : xoP a b 16 = xorS a b := by
  refine List.ext_getElem (by simp [xoP, xorS]) fun i h1 h2 => ?_
  have : i < 16 := by simpa [xoP] using h1
  simp [xoP, xorS, this]
theorem xoP_at (a b : List UInt8) {i : Nat} (hi : i < 16) : (xoP a b i).getD i 0 = a.getD i 0 := by
  simp [xoP, List.getD, List.getElem?_range hi]
theorem xoP_set {a b : List UInt8} {i : Nat} (hi : i < 16) : (xoP a b i).set i (a.getD i 0 ^^^ b.getD i 0) = xoP a b (i + 1) := by
  refine List.ext_getElem (by simp [xoP]) fun j h1 h2 => ?_
  simp only [xoP, List.getElem_set, List.getElem_map, List.getElem_range]
  by_cases e : i = j
  · subst e; simp
  · rw [if_neg e]
    have : (j < i) ↔ (j < i + 1) := by omega
    simp [this]

end Go.Proofs.YtinpiodfpnbllaaGreatDoor

/- The reference's bytes, words and blocks. -/
namespace Go.Proofs.YtinpiodfpnbllaaGreatDoor
open Go.RowKit
set_option linter.unusedVariables false

theorem mul_add_u8 (x : UInt64) (c : UInt8) : IntKind.u64.wrap (IntKind.u64.wrap (256 * (x.toNat : Int)) + (c.toNat : Int)) = ((256 * x + c.toUInt64).toNat : Int) := by
  rw [u64_mul256, show (c.toNat : Int) = (c.toUInt64.toNat : Int) from by rw [UInt8.toNat_toUInt64], u64_add]
theorem mul_add_u8m (x : UInt64) (c : UInt8) : (256 * (x.toNat : Int) + (c.toNat : Int)) % 18446744073709551616 = ((256 * x + c.toUInt64).toNat : Int) := by
  rw [UInt64.toNat_add, UInt64.toNat_mul, UInt8.toNat_toUInt64, show (256 : UInt64).toNat = 256 from rfl]
  omega
theorem wd_take_succ' {l : List UInt8} {k : Nat} (h : k < l.length) : wd (l.take (k + 1)) = 256 * wd (l.take k) + (l.getD k 0).toUInt64 := by
  rw [List.take_succ_eq_append_getElem h, wd_snoc]
  simp [List.getD, List.getElem?_eq_getElem h]

/-- A part of a key in a block, as bytes. -/
theorem Blk.br {w : World} {g : Nat} {t : TypeId} {b : List UInt8} (h : Blk w g t (cellsB b).toArray) (o n c : Nat) (hn : o + n ≤ b.length) (hc : n ≤ c) (hc2 : c ≤ 100) : BR w (some ⟨g, o, none⟩) c ((b.drop o).take n) := by
  have hl : ((b.drop o).take n).length = n := by rw [List.length_take, List.length_drop]; omega
  refine ⟨⟨by simp [cellsB], by omega, by omega, by omega⟩, fun _ => ⟨g, o, rfl, h.lt, fun j v hv => ?_⟩⟩
  rw [h.cell]
  have hj : j < n := by
    rcases Nat.lt_or_ge j n with h' | h'
    · exact h'
    · rw [List.getElem?_eq_none (by rw [cellsB_length, hl]; exact h')] at hv; cases hv
  rw [← hv]
  simp [cellsB, List.getElem?_take, hj, List.getElem?_drop]
/-- The lowest bytes of a word, the highest first. -/
def bysN (n : UInt64) : Nat → List UInt8
  | 0 => []
  | i + 1 => (n >>> UInt64.ofNat (8 * i)).toUInt8 :: bysN n i
theorem bysN_length (n : UInt64) (i : Nat) : (bysN n i).length = i := by
  induction i with
  | zero => rfl
  | succ i ih => rw [bysN, List.length_cons, ih]
theorem bysN_8 (n : UInt64) : bysN n 8 = by8 n := by
  have e : (n >>> UInt64.ofNat (8 * 0)) = n := by simp
  simp only [bysN, e]
  rfl
theorem by8_split (n : UInt64) : by8 n = (n >>> 56).toUInt8 :: bysN n 7 := by rw [← bysN_8]; rfl
/-- The number that is left after i bytes. -/
theorem shr_div (n : UInt64) (i : Nat) (hi : i < 8) : (n >>> UInt64.ofNat (8 * i)).toNat = n.toNat / 256 ^ i := by
  rw [toNat_shr _ _ (by omega), Nat.pow_mul]
theorem byte_mod (n : UInt64) (i : Nat) (hi : i < 8) {m : Nat} (hm : m = n.toNat / 256 ^ i) : ((m : Nat) : Int) % 256 = (((n >>> UInt64.ofNat (8 * i)).toUInt8.toNat : Nat) : Int) := by
  rw [UInt64.toNat_toUInt8, shr_div n i hi, ← hm]
  omega

/-- The first 16 bytes, zeros where there are none. -/
def padK (l : List UInt8) : List UInt8 := (List.range 16).map fun i => l.getD i 0
theorem padK_length (l : List UInt8) : (padK l).length = 16 := by simp [padK]
theorem padK_16 {l : List UInt8} (h : l.length = 16) : padK l = l := by
  match l, h with
  | [_, _, _, _, _, _, _, _, _, _, _, _, _, _, _, _], _ => rfl
/-- .. after k bytes. -/
def padS (l : List UInt8) (k : Nat) : List UInt8 := (List.range 16).map fun i => if i < k then l.getD i 0 else 0
theorem padS_length (l : List UInt8) (k : Nat) : (padS l k).length = 16 := by simp [padS]
theorem padS_step (l : List UInt8) (k : Nat) (hk : k < 16) : (padS l k).set k (l.getD k 0) = padS l (k + 1) := by
  refine List.ext_getElem (by simp [padS]) fun i h1 h2 => ?_
  simp only [padS, List.getElem_set, List.getElem_map, List.getElem_range]
  by_cases h : k = i
  · subst h; simp
  · rw [if_neg h]
    by_cases h3 : i < k
    · rw [if_pos h3, if_pos (by omega)]
    · rw [if_neg h3, if_neg (by omega)]
theorem padS_fin (l : List UInt8) (k : Nat) (hk : k = 16 ∨ l.length ≤ k) : padS l k = padK l := by
  refine List.ext_getElem (by simp [padS, padK]) fun i h1 h2 => ?_
  simp only [padS, padK, List.getElem_map, List.getElem_range]
  have hi : i < 16 := by simpa [padS] using h1
  by_cases h : i < k
  · rw [if_pos h]
  · rw [if_neg h]
    rcases hk with hk | hk
    · omega
    · simp [List.getD, List.getElem?_eq_none (show l.length ≤ i by omega)]
end Go.Proofs.YtinpiodfpnbllaaGreatDoor

/- The reference's blocks of words, and of a tag. -/
namespace Go.Proofs.YtinpiodfpnbllaaGreatDoor
open Go.RowKit
set_option linter.unusedVariables false
attribute [local go_sem] run_storeCells_key

/-- The block of a tag. -/
theorem tagS_bytes (t : UInt8) (c n : UInt64) (hc : c.toNat < 72057594037927936) : t :: (bysN c 7 ++ bysN n 8) = tagS t c n := by
  have hx : (t.toUInt64 <<< 56 ||| c).toNat = t.toNat * 72057594037927936 + c.toNat := by
    rw [UInt64.toNat_or, UInt64.toNat_shiftLeft, UInt8.toNat_toUInt64, show (56 : UInt64).toNat % 64 = 56 from rfl, Nat.shiftLeft_eq]
    have ht := t.toNat_lt
    rw [show t.toNat * 2 ^ 56 % 2 ^ 64 = t.toNat * 2 ^ 56 from by omega, or_add 56 (by omega)]
  unfold tagS blk
  dsimp only
  rw [by8_split, bysN_8]
  generalize (t.toUInt64 <<< 56 ||| c) = z at hx
  have e1 : (z >>> 56).toUInt8 = t := by
    apply UInt8.toNat_inj.1
    rw [UInt64.toNat_toUInt8, show (56 : UInt64) = UInt64.ofNat 56 from rfl, toNat_shr _ _ (by omega), hx]
    have ht := t.toNat_lt
    omega
  have e2 : bysN z 7 = bysN c 7 := by
    have hb : ∀ i, i < 7 → (z >>> UInt64.ofNat (8 * i)).toUInt8 = (c >>> UInt64.ofNat (8 * i)).toUInt8 := fun i hi => by
      apply UInt8.toNat_inj.1
      rw [UInt64.toNat_toUInt8, UInt64.toNat_toUInt8, toNat_shr _ _ (by omega), toNat_shr _ _ (by omega), hx]
      match i, hi with
      | 0, _ => omega
      | 1, _ => omega
      | 2, _ => omega
      | 3, _ => omega
      | 4, _ => omega
      | 5, _ => omega
      | 6, _ => omega
    simp only [bysN]
    rw [hb 0 (by omega), hb 1 (by omega), hb 2 (by omega), hb 3 (by omega), hb 4 (by omega), hb 5 (by omega), hb 6 (by omega)]
  rw [e1, e2]
  rfl

end Go.Proofs.YtinpiodfpnbllaaGreatDoor

/- The reference's round keys, and Encrypt, Derive, Number. -/
namespace Go.Proofs.YtinpiodfpnbllaaGreatDoor
open Go.RowKit
set_option linter.unusedVariables false
attribute [local go_sem] run_storeCells_key

theorem quiet_n {P : Program} {f : FuncId} {args : Array Value} {w : World} {n : Nat} {v : Value}
    (h : Calls P f args (w.drewN n) fun e w' => e = .returned v ∧ ∃ m, w' = (w.drewN n).drewN m) : Calls P f args (w.drewN n) fun e w'' => e = .returned v ∧ ∃ m, w'' = w.drewN m :=
  h.mono fun _ _ ⟨he, m, hm⟩ => ⟨he, n + m, by rw [hm, World.drewN_drewN]⟩
def cellsU (l : List UInt64) : List Value := l.map fun x => .int .u64 (x.toNat : Int)
theorem cellsU_append (a b : List UInt64) : cellsU (a ++ b) = cellsU a ++ cellsU b := by simp [cellsU]
theorem u64_info : (Tryz.prog.info? 66).map (fun i => (i.zero, i.size, i.bytes)) = some (some (.int .u64 0), 1, 8) := by kernel_rfl
/-- The round keys up to number i. -/
def ksL (k : W2) (i : Nat) : List UInt64 := (List.range (i + 1)).map fun j => (ksS k j).2
theorem ksL_length (k : W2) (i : Nat) : (ksL k i).length = i + 1 := by simp [ksL]
theorem ksL_succ (k : W2) (i : Nat) : ksL k (i + 1) = ksL k i ++ [(ksS k (i + 1)).2] := by rw [ksL, List.range_succ]; simp [ksL]
theorem rnd_fst (i : Nat) (x y : UInt64) (hi : i < 64) : bits .xor .u64 (IntKind.u64.wrap ((y.toNat : Int) + ((rotr8 x).toNat : Int))) (i : Int) = ((rnd (UInt64.ofNat i) (x, y)).1.toNat : Int) := by
  have e : (i : Int) = ((UInt64.ofNat i).toNat : Int) := by rw [UInt64.toNat_ofNat', Nat.mod_eq_of_lt (by omega)]
  rw [u64_add, e, u64_xor, UInt64.add_comm]
  rfl
theorem rnd_fstm (i : Nat) (x y : UInt64) (hi : i < 64) : bits .xor .u64 (((y.toNat : Int) + ((rotr8 x).toNat : Int)) % 18446744073709551616) (i : Int) = ((rnd (UInt64.ofNat i) (x, y)).1.toNat : Int) := by
  rw [← rnd_fst i x y hi, u64_addm, u64_add]
theorem rnd_fstk (k x y : UInt64) : bits .xor .u64 (IntKind.u64.wrap (((rotr8 x).toNat : Int) + (y.toNat : Int))) (k.toNat : Int) = ((rnd k (x, y)).1.toNat : Int) := by
  rw [u64_add, u64_xor]
  rfl
theorem rnd_fstkm (k x y : UInt64) : bits .xor .u64 ((((rotr8 x).toNat : Int) + (y.toNat : Int)) % 18446744073709551616) (k.toNat : Int) = ((rnd k (x, y)).1.toNat : Int) := by
  rw [← rnd_fstk k x y, u64_addm, u64_add]
theorem rnd_snd (k x y : UInt64) : bits .xor .u64 ((rotl3 y).toNat : Int) ((rnd k (x, y)).1.toNat : Int) = ((rnd k (x, y)).2.toNat : Int) := by
  rw [u64_xor]
  rfl

end Go.Proofs.YtinpiodfpnbllaaGreatDoor

/- The reference's Encrypt, Derive, Number. -/
namespace Go.Proofs.YtinpiodfpnbllaaGreatDoor
open Go.RowKit
set_option linter.unusedVariables false
attribute [local go_sem] run_storeCells_key

theorem ksL_at (k : W2) (i : Nat) (h : i < 32) : (cellsU (ksL k 31))[i]? = some (.int .u64 ((ksS k i).2.toNat : Int)) := by
  simp [cellsU, ksL, List.getElem?_range h]
end Go.Proofs.YtinpiodfpnbllaaGreatDoor

/- Undoing a round. -/
namespace Go.Proofs.YtinpiodfpnbllaaGreatDoor
open Go.RowKit
set_option linter.unusedVariables false

theorem deW_step (k p : W2) (j : Nat) (h : j < 32) : deW k p (32 - j) = bck (ksS k j).2 (deW k p (32 - (j + 1))) := by
  obtain ⟨m, hm⟩ : ∃ m, m = 32 - (j + 1) := ⟨_, rfl⟩
  rw [← hm, show 32 - j = m + 1 from by omega, deW, show 31 - m = j from by omega]
set_option maxHeartbeats 1000000 in
set_option maxRecDepth 100000 in
theorem back_any (p : W2) (k : UInt64) (w : World) : Calls Tryz.prog 107 #[.agg #[.int .u64 (p.1.toNat : Int), .int .u64 (p.2.toNat : Int)], .int .u64 (k.toNat : Int)] w fun e w' => e = .returned (.agg #[.int .u64 ((bck k p).1.toNat : Int), .int .u64 ((bck k p).2.toNat : Int)]) ∧ Below w.heap.size w w' := by
  obtain ⟨x, y⟩ := p
  dsimp only
  have hx := u64_bd x
  have hy := u64_bd y
  have hk := u64_bd k
  have HE : Hid (rotl8 ((x ^^^ k) - rotr3 (x ^^^ y)) = (bck k (x, y)).1 ∧ rotr3 (x ^^^ y) = (bck k (x, y)).2) := ⟨rfl, rfl⟩
  have hy3 := u64_bd (rotr3 (x ^^^ y))
  go_enter Tryz.func107, Tryz.ntmps107
  go_wp2_with fail
  simp only [u64_xor]
  go_at_call 155
  refine (RotateLeft64_r3 (x ^^^ y) _).mono ?_
  rintro e w1 ⟨rfl, rfl⟩
  go_wp2_with fail
  simp only [u64_xor, u64_sub]
  go_at_call 155
  refine (RotateLeft64_l8 _ _).mono ?_
  rintro e w1 ⟨rfl, rfl⟩
  rw [HE.out.1, HE.out.2]
  go_wp2_with fail
  exact bodyPost_ret (v := .agg #[.int .u64 ((bck k (x, y)).1.toNat : Int), .int .u64 ((bck k (x, y)).2.toNat : Int)]) (by simp [results, Tryz.results107, go_sem]) rfl
    ⟨rfl, alloc2_bel w _ _⟩
end Go.Proofs.YtinpiodfpnbllaaGreatDoor

/- The reference's Decrypt. -/
namespace Go.Proofs.YtinpiodfpnbllaaGreatDoor
open Go.RowKit
set_option linter.unusedVariables false
attribute [local go_sem] run_storeCells_key

theorem bck_snd (u x y : UInt64) : rotr3 (y ^^^ x) = (bck u (x, y)).2 := by rw [UInt64.xor_comm]; rfl
theorem bck_fst (u x y : UInt64) : rotl8 ((x ^^^ u) - (bck u (x, y)).2) = (bck u (x, y)).1 := rfl
end Go.Proofs.YtinpiodfpnbllaaGreatDoor

/- The reference's Derive, Number. -/
namespace Go.Proofs.YtinpiodfpnbllaaGreatDoor
open Go.RowKit
set_option linter.unusedVariables false
attribute [local go_sem] run_storeCells_key

end Go.Proofs.YtinpiodfpnbllaaGreatDoor

/- The check of a content key: the program's. -/
namespace Go.Proofs.YtinpiodfpnbllaaGreatDoor
open Go.RowKit
set_option linter.unusedVariables false
attribute [local go_sem] run_storeCells_key

/-- The check of a content key. -/
def chkS (k : List UInt8) : List UInt8 := derS k 53 0
set_option maxHeartbeats 1000000 in
set_option maxRecDepth 100000 in
theorem check_any (k : List UInt8) (w : World) (hk : k.length = 16) : Calls Tryz.prog 118 #[.agg (cellsB k).toArray] w fun e w' => e = .returned (.agg (cellsB (chkS k)).toArray) ∧ Below w.heap.size w w' := by
  have HK := Lib.hid hk
  have hkl : (cellsB k).length = 16 := by rw [cellsB_length, hk]
  have HZ := Lib.hid zero16
  have HD : Hid (∀ W, Calls Tryz.prog 49 #[.agg (cellsB k).toArray, .int .u8 53, .int .u64 0] W fun e w' => e = .returned (.agg (cellsB (chkS k)).toArray) ∧ Below W.heap.size W w') := fun W => Derive_any k 53 0 W hk
  have hl : (cellsB (chkS k)).length = 16 := rfl
  have hall := all16 (chkS k)
  clear hk
  go_enter Tryz.func118, Tryz.ntmps118
  go_wp2_with (go_at_call 49; rw [fold16B k HK.out, HZ.out]; refine (HD.out _).mono ?_; rintro e w1 ⟨rfl, hb1⟩; have hB1 := (blk_b1 w (.cells (cellsB k).toArray 24) (cellsB zeroK).toArray 24).below' hb1; have hr1 : (rowAt w1 (w.heap.size + 1)).size = 16 := by { rw [hB1.row]; rfl }; have hf1 := hB1.free; have HB1 := Lib.hid hB1; clear hB1)
  exact bodyPost_ret (results_cell_row rfl _ _ (w.heap.size + 1) _ _ (0, 0) _ rfl (HB1.out.setRow (cellsB (chkS k)).toArray) under_key rfl (cellsB_size _ rfl)) rfl ⟨rfl, below_setRow ((alloc2_bel w _ _).trans (hb1.mono (alloc2_bel w _ _).size)) (by omega) _⟩
end Go.Proofs.YtinpiodfpnbllaaGreatDoor

/- The content key of a recording: the reference's. -/
namespace Go.Proofs.YtinpiodfpnbllaaGreatDoor
open Go.RowKit
set_option linter.unusedVariables false
attribute [local go_sem] run_storeCells_key run_storeCells_new

theorem equalIn_keys (w : World) (a b : List UInt8) (ha : Hid (a.length = 16)) (hb : Hid (b.length = 16)) : (Op.equalIn 10000 24 (.agg (cellsB a).toArray) (.agg (cellsB b).toArray)).run Tryz.prog w = .ok (a == b) w := by
  have := run_equalIn_bytes (P := Tryz.prog) w 9998 24 5 16 Tryz.underlying24 Tryz.underlying5 (size_one (by kernel_rfl)) a b ha.out hb.out
  unfold cellsB
  have e : (fun x : UInt8 => Value.int .u8 (x.toNat : Int)) = Extern.Stop.cell := rfl
  rw [e, this]
attribute [local go_sem] equalIn_keys

end Go.Proofs.YtinpiodfpnbllaaGreatDoor

/- The program's xor of blocks, and the step of its digest. -/
namespace Go.Proofs.YtinpiodfpnbllaaGreatDoor
open Go.RowKit
set_option linter.unusedVariables false
attribute [local go_sem] run_storeCells_key equalIn_keys

theorem xorS_self {a : List UInt8} (h : a.length = 16) : xorS a a = zeroK := by
  refine List.ext_getElem (by simp [xorS]; rfl) fun i h1 h2 => ?_
  rw [show zeroK[i] = 0 from List.getElem_replicate _]
  simp [xorS]

set_option maxHeartbeats 1000000 in
set_option maxRecDepth 100000 in
theorem xor_same (a : List UInt8) (w : World) (ha : a.length = 16) : Calls Tryz.prog 151 #[.agg (cellsB a).toArray, .agg (cellsB a).toArray] w fun e w' => e = .returned (.agg (cellsB (xorS a a)).toArray) ∧ Below w.heap.size w w' := by
  have HA := Lib.hid ha
  have HZ := Lib.hid zero16
  have HXS := Lib.hid (xorS_self ha)
  have B2 := blk_a2 w (.cells (cellsB a).toArray 24) (.cells (cellsB a).toArray 24) (cellsB zeroK).toArray 24
  have hr3 : (rowAt (((w.alloc (.cells (cellsB a).toArray 24)).alloc (.cells (cellsB a).toArray 24)).alloc (.cells (cellsB zeroK).toArray 24)) (w.heap.size + 1 + 1)).size = 16 := by rw [B2.row]; rfl
  have hf3 := B2.free
  have HB2 := Lib.hid B2
  have hlz : (cellsB zeroK).length = 16 := rfl
  have haz := all16 zeroK
  have b0 := alloc3_bel w (.cells (cellsB a).toArray 24) (.cells (cellsB a).toArray 24) (.cells (cellsB zeroK).toArray 24)
  have hz : ∀ W, (Op.equalIn 10000 24 (.agg (cellsB a).toArray) (.agg (cellsB a).toArray)).run Tryz.prog W = .ok true W := fun W => by rw [equalIn_keys W a a HA.out HA.out]; simp
  clear ha B2
  go_enter Tryz.func151, Tryz.ntmps151
  go_wp2_with (first
    | (rw [HZ.out]; refine wpList_load_row rfl 24 (.tmp 2) rfl w.heap.size rfl 24 (cellsB a).toArray (0, 0) _ (blk_a0 w _ _ _ _) under_key rfl (cellsB_size _ HA.out) ?_)
    | (refine wpList_load_row rfl 24 (.tmp 3) rfl (w.heap.size + 1) rfl 24 (cellsB a).toArray (0, 0) _ (blk_a1 w _ _ _ _) under_key rfl (cellsB_size _ HA.out) ?_)
    | (refine wpList_buildTo rfl 24 #[] rfl (some 9) rfl (cellsB zeroK).toArray (by kernel_rfl) ?_))
  exact bodyPost_ret (results_cell_row rfl _ _ (w.heap.size + 1 + 1) _ _ (0, 0) _ rfl (HB2.out.setRow (cellsB zeroK).toArray) under_key rfl (cellsB_size _ rfl)) rfl ⟨by rw [HXS.out], below_setRow b0 (by omega) _⟩

set_option maxHeartbeats 1000000 in
set_option maxRecDepth 100000 in
theorem xor_any (a b : List UInt8) (w : World) (ha : a.length = 16) (hb : b.length = 16) : Calls Tryz.prog 151 #[.agg (cellsB a).toArray, .agg (cellsB b).toArray] w fun e w' => e = .returned (.agg (cellsB (xorS a b)).toArray) ∧ Below w.heap.size w w' := by
  by_cases hab : a = b
  · subst hab; exact xor_same a w ha
  have HA := Lib.hid ha
  have HB := Lib.hid hb
  have HZ := Lib.hid zero16
  have hz : ∀ W, (Op.equalIn 10000 24 (.agg (cellsB a).toArray) (.agg (cellsB b).toArray)).run Tryz.prog W = .ok false W := fun W => by rw [equalIn_keys W a b HA.out HB.out]; simp [hab]
  clear ha hb hab
  go_enter Tryz.func151, Tryz.ntmps151
  go_wp2_with (first
    | (rw [HZ.out]; refine wpList_load_row rfl 24 (.tmp 2) rfl w.heap.size rfl 24 (cellsB a).toArray (0, 0) _ (blk_a0 w _ _ _ _) under_key rfl (cellsB_size _ HA.out) ?_)
    | (refine wpList_load_row rfl 24 (.tmp 3) rfl (w.heap.size + 1) rfl 24 (cellsB b).toArray (0, 0) _ (blk_a1 w _ _ _ _) under_key rfl (cellsB_size _ HB.out) ?_))
  clear hz
  go_loopw [10] (fun vi wr => ∃ i : Nat, i ≤ 16 ∧ vi = .int .i64 (i : Int) ∧ Hid (Blk wr w.heap.size 24 (cellsB (xoP a b i)).toArray) ∧ Hid (Blk wr (w.heap.size + 1) 24 (cellsB b).toArray) ∧ Hid (Blk wr (w.heap.size + 1 + 1) 24 (cellsB zeroK).toArray) ∧ Below w.heap.size w wr) (fun vi _ => 16 - (intOf vi).toNat)
  case atStart => exact ⟨0, by omega, rfl, by rw [xoP_zero b HA.out]; exact blk_a0 _ _ _ _ _, blk_a1 _ _ _ _ _, blk_a2 _ _ _ _ _, alloc3_bel _ _ _ _⟩
  case round =>
    obtain ⟨i, hi, rfl, HB1, HB2, HB3, hbel⟩ := hrel
    by_cases hlt : i < 16
    · have hii : (i : Int) < 16 := by omega
      have c0 := HB1.out.cell i
      rw [bytes_get _ i (by rw [xoP_length]; exact hlt), xoP_at a b hlt] at c0
      have c1 := HB2.out.cell i
      rw [bytes_get _ i (by rw [HB.out]; exact hlt)] at c1
      have f0 := HB1.out.frozen i
      have HSET := Lib.hid (xoP_set (a := a) (b := b) hlt)
      obtain ⟨x, hx⟩ : ∃ x, a.getD i 0 = x := ⟨_, rfl⟩
      obtain ⟨y, hy⟩ : ∃ y, b.getD i 0 = y := ⟨_, rfl⟩
      rw [hx, hy] at HSET
      rw [hx] at c0
      rw [hy] at c1
      have HX : Hid (bits .xor .u8 (x.toNat : Int) (y.toNat : Int) = ((x ^^^ y).toNat : Int)) := xor_u8 _ _
      clear hx hy hlt
      go_wp2_with fail
      go_region
      all_goals
        rw [HX.out]
        go_wp2_with fail
        go_roundw
      all_goals first
        | exact ⟨i + 1, by omega, by go_num, by
            have h := HB1.out.drew.set_ i (.int .u8 ((x ^^^ y).toNat : Int))
            rw [bytes_set, HSET.out] at h
            exact h, HB2.out.drew.far (p := ⟨w.heap.size, i, none⟩) (by simp) _, HB3.out.drew.far (p := ⟨w.heap.size, i, none⟩) (by simp; omega) _, hbel.drew.setCell (p := ⟨w.heap.size, i, none⟩) (by simp) _⟩
        | (simp [intOf]; omega)
    · obtain rfl : i = 16 := by omega
      have B1 : Blk wr w.heap.size 24 (cellsB (xorS a b)).toArray := by rw [← xoP_fin]; exact HB1.out
      have HL : Hid ((xorS a b).length = 16) := xorS_length a b
      obtain ⟨r, hr⟩ : ∃ r, xorS a b = r := ⟨_, rfl⟩
      rw [hr] at B1 HL
      have HRX := Lib.hid hr
      have hl : (cellsB r).length = 16 := by rw [cellsB_length, HL.out]
      have hall := all16 r
      have hr3 : (rowAt wr (w.heap.size + 1 + 1)).size = 16 := by rw [HB3.out.row]; rfl
      have hf3 := HB3.out.free
      have HR1 := Lib.hid B1
      clear hr B1
      go_wp2_with (refine wpList_load_row rfl 24 (.tmp 2) rfl w.heap.size rfl 24 (cellsB r).toArray (0, 0) _ HR1.out under_key rfl (cellsB_size _ HL.out) ?_)
      exact bodyPost_ret (results_cell_row rfl _ _ (w.heap.size + 1 + 1) _ _ (0, 0) _ rfl (HB3.out.setRow (cellsB r).toArray) under_key rfl (cellsB_size _ HL.out)) rfl ⟨by rw [HRX.out], below_setRow hbel (by omega) _⟩

set_option maxHeartbeats 2000000 in
set_option maxRecDepth 100000 in
theorem hashStep_any (s p : List UInt8) (w : World) (hs : s.length = 16) (hp : p.length = 16) : Calls Tryz.prog 150 #[.agg (cellsB s).toArray, .agg (cellsB p).toArray] w fun e w' => e = .returned (.agg (cellsB (xorS (encS p s) s)).toArray) ∧ Below w.heap.size w w' := by
  have HS := Lib.hid hs
  have HP := Lib.hid hp
  have HZ := Lib.hid zero16
  have b0 := alloc3_bel w (.cells (cellsB s).toArray 24) (.cells (cellsB p).toArray 24) (.cells (cellsB zeroK).toArray 24)
  have B0 := Lib.hid (blk_a0 w (cellsB s).toArray 24 (.cells (cellsB p).toArray 24) (.cells (cellsB zeroK).toArray 24))
  have B1 := Lib.hid (blk_a1 w (.cells (cellsB s).toArray 24) (cellsB p).toArray 24 (.cells (cellsB zeroK).toArray 24))
  have B2 := Lib.hid (blk_a2 w (.cells (cellsB s).toArray 24) (.cells (cellsB p).toArray 24) (cellsB zeroK).toArray 24)
  have HEN : Hid (∀ W, Calls Tryz.prog 51 #[.agg (cellsB p).toArray, .agg (cellsB s).toArray] W fun e w' => e = .returned (.agg (cellsB (encS p s)).toArray) ∧ Below W.heap.size W w') := fun W => Encrypt_any p s W hp hs
  have HXO : Hid (∀ W, Calls Tryz.prog 151 #[.agg (cellsB (encS p s)).toArray, .agg (cellsB s).toArray] W fun e w' => e = .returned (.agg (cellsB (xorS (encS p s) s)).toArray) ∧ Below W.heap.size W w') := fun W => xor_any _ _ W rfl hs
  have HRL : Hid ((xorS (encS p s) s).length = 16) := xorS_length _ _
  generalize xorS (encS p s) s = r at HXO HRL
  generalize encS p s = t at HEN HXO
  clear hs hp
  go_enter Tryz.func150, Tryz.ntmps150
  go_wp2_with fail
  rw [HZ.out]
  obtain ⟨W, hW⟩ : ∃ W : World, W = ((w.alloc (.cells (cellsB s).toArray 24)).alloc (.cells (cellsB p).toArray 24)).alloc (.cells (cellsB zeroK).toArray 24) := ⟨_, rfl⟩
  rw [← hW] at b0 B0 B1 B2 ⊢
  clear hW
  refine wp_region_noPanic ?_
  refine wp_region_held_drew (S := fun w' => w'.rangeAt w.heap.size 0 (cellsB s) ∧ w'.rangeAt (w.heap.size + 1) 0 (cellsB p)) (by kernel_rfl) ⟨B0.out.drew.range, B1.out.drew.range⟩ (fun hS => ?_)
  refine hd_load 0 (w.heap.size + 1) 0 (cellsB p) _ _ rfl rfl rfl (by kernel_rfl) (by kernel_rfl) (by kernel_rfl) (fun _ _ _ h => h) rfl (fun w hw => hw.2) under_key rfl (key_info HP.out) hS ?_
  refine hd_load 1 w.heap.size 0 (cellsB s) _ _ rfl rfl rfl (by kernel_rfl) (by kernel_rfl) (by kernel_rfl) (fun _ _ _ h => h) rfl (fun w hw => hw.1) under_key rfl (key_info HS.out) hS ?_
  refine hd_load 3 w.heap.size 0 (cellsB s) _ _ rfl rfl rfl (by kernel_rfl) (by kernel_rfl) (by kernel_rfl) (fun _ _ _ h => h) rfl (fun w hw => hw.1) under_key rfl (key_info HS.out) hS ?_
  refine hd_calls 2 51 #[.agg (cellsB p).toArray, .agg (cellsB s).toArray] rfl rfl (by kernel_rfl) (by go_simp) ((HEN.out _).mono ?_)
  rintro e w5 ⟨rfl, hb5⟩
  have hS5 := And.intro (range_below hS.1 hb5) (range_below hS.2 hb5)
  refine ⟨_, rfl, hS5, ?_⟩
  refine hd_calls 4 151 #[.agg (cellsB t).toArray, .agg (cellsB s).toArray] rfl rfl (by kernel_rfl) (by go_simp) ((HXO.out _).mono ?_)
  rintro e w6 ⟨rfl, hb6⟩
  have hS6 := And.intro (range_below hS5.1 hb6) (range_below hS5.2 hb6)
  refine ⟨_, rfl, hS6, ?_⟩
  simp only [List.getElem_toArray, List.getElem_cons_succ, List.getElem_cons_zero, Act.put, List.setIfInBounds_toArray, List.set_cons_zero, List.set_cons_succ]
  have r6 := (B2.out.drew.below' hb5).below' hb6
  have b6 : Below w.heap.size w w6 := bel_on (bel_on (b0.drew) hb5) hb6
  refine hd_store 5 (w.heap.size + 1 + 1) (cellsB r).toArray _ _ _ rfl rfl rfl (by kernel_rfl) rfl rfl r6 (cellsB_size _ HRL.out) (by rw [List.size_toArray, List.size_toArray, cellsB_length, cellsB_length, HRL.out]; rfl) (all_oneCell_toArray (cells_one r)) ⟨range_setRow hS6.1 (by omega) _, range_setRow hS6.2 (by omega) _⟩ ?_
  refine wpAnyH_done (by kernel_rfl) (NoPanic.normal ?_) _
  simp only [List.getElem_toArray, List.getElem_cons_succ, List.getElem_cons_zero, Act.put, List.setIfInBounds_toArray, List.set_cons_zero, List.set_cons_succ]
  go_wp2_with fail
  exact bodyPost_ret (results_cell_row rfl _ _ (w.heap.size + 1 + 1) _ _ (0, 0) _ rfl (r6.setRow (cellsB r).toArray) under_key rfl (cellsB_size _ HRL.out)) rfl ⟨rfl, below_setRow b6 (by omega) _⟩
end Go.Proofs.YtinpiodfpnbllaaGreatDoor

/- The reference's portions. -/
namespace Go.Proofs.YtinpiodfpnbllaaGreatDoor
open Go.RowKit
set_option linter.unusedVariables false
attribute [local go_sem] run_storeCells_key

/-- Where a cut 's[n:]' of bytes leads. -/
def dropP (A : Option Addr) (n c : Nat) : Option Addr := if c = n then A else A.map fun x => x.add n
theorem slice_bytes_from (W : World) (A : Option Addr) (m c n : Nat) (h : n ≤ m) :
    (Instr.slice 22 (.slice A m c) (some (.int .i64 (n : Int))) none none).run Tryz.prog W = .ok (.slice (dropP A n c) (m - n) (c - n)) W := by
  have e : Tryz.prog.elem 22 = 5 := by kernel_rfl
  rw [run_slice_l (P := Tryz.prog) (w := W) 22 A m c (by rw [e]; exact Tryz.underlying22) .i64 n (by omega) (by omega), e, Tryz.sizeOf5 W]
  simp [Result.andThen, sliced, dropP]
theorem BR.drop {w : World} {A : Option Addr} {c : Nat} {l : List UInt8} (h : BR w A c l) (n : Nat) (hn : n ≤ l.length) : BR w (dropP A n c) (c - n) (l.drop n) := by
  have h1 := Rd.le h
  have h2 := Rd.cap h
  have h3 := Rd.len h
  refine ⟨⟨by rw [cellsB_length, Nat.mul_one], by rw [List.length_drop]; omega, by omega, by rw [List.length_drop]; omega⟩, fun hne => ?_⟩
  rw [List.length_drop] at hne
  obtain ⟨b, off, e, hb, hc⟩ := h.2 (by omega)
  refine ⟨b, off + n, by rw [dropP, if_neg (by omega), e]; simp [Addr.add], hb, fun j v hv => ?_⟩
  rw [Nat.add_assoc]
  refine hc (n + j) v ?_
  rw [← hv]
  simp [cellsB, List.getElem?_drop]

end Go.Proofs.YtinpiodfpnbllaaGreatDoor

/- Where a list of leaves is parted, in plain words. -/
namespace Go.Proofs.YtinpiodfpnbllaaGreatDoor
set_option linter.unusedVariables false

/-- The greatest power of 2 below n, for n from 2 on. -/
def splitS (n : Nat) : Nat := 2 ^ Nat.log2 (n - 1)
theorem splitS_pos (n : Nat) : 1 ≤ splitS n := Nat.two_pow_pos _
theorem splitS_lt {n : Nat} (h : 2 ≤ n) : splitS n < n := by
  have := Nat.log2_self_le (n := n - 1) (by omega)
  unfold splitS
  omega
theorem splitS_ge {n : Nat} (h : 2 ≤ n) : n ≤ 2 * splitS n := by
  have := Nat.lt_log2_self (n := n - 1)
  unfold splitS
  rw [Nat.pow_succ] at this
  omega
theorem splitS_of {n e : Nat} (h1 : 2 ^ e < n) (h2 : n ≤ 2 * 2 ^ e) : splitS n = 2 ^ e := by
  have a1 := splitS_lt (n := n) (by have := Nat.two_pow_pos e; omega)
  have a2 := splitS_ge (n := n) (by have := Nat.two_pow_pos e; omega)
  unfold splitS at *
  generalize Nat.log2 (n - 1) = f at *
  rcases Nat.lt_trichotomy e f with h | h | h
  · have := Nat.pow_le_pow_right (show 1 ≤ 2 by omega) (show e + 1 ≤ f from h)
    rw [Nat.pow_succ] at this
    omega
  · rw [h]
  · have := Nat.pow_le_pow_right (show 1 ≤ 2 by omega) (show f + 1 ≤ e from h)
    rw [Nat.pow_succ] at this
    omega
end Go.Proofs.YtinpiodfpnbllaaGreatDoor

/- What follows a text before it is digested, in plain words. -/
namespace Go.Proofs.YtinpiodfpnbllaaGreatDoor
set_option linter.unusedVariables false

/-- What follows n bytes before they are digested: the zeros between. -/
def padZ (n : Nat) : Nat := (23 - n % 16) % 16
def padB (b : List UInt8) : List UInt8 := b ++ (128 :: (List.replicate (padZ b.length) 0 ++ by8 (UInt64.ofNat b.length)))
theorem padB_length (b : List UInt8) : (padB b).length = b.length + 9 + padZ b.length := by simp [padB, by8_length]; omega
def padTail (n : Nat) : List UInt8 := 128 :: (List.replicate (padZ n) 0 ++ by8 (UInt64.ofNat n))
theorem padTail_length (n : Nat) : (padTail n).length = 9 + padZ n := by simp [padTail, by8_length]; omega
theorem padB_tail (b : List UInt8) {n : Nat} (h : b.length = n) : padB b = b ++ padTail n := by rw [padB, padTail, h]
def padJ (j : Nat) : List UInt8 := 128 :: List.replicate j 0
theorem padJ_length (j : Nat) : (padJ j).length = j + 1 := by simp [padJ]
theorem padJ_succ (j : Nat) : padJ (j + 1) = padJ j ++ [0] := by simp [padJ, List.replicate_succ']
end Go.Proofs.YtinpiodfpnbllaaGreatDoor

/- Digests and trees in plain words. -/
namespace Go.Proofs.YtinpiodfpnbllaaGreatDoor
set_option linter.unusedVariables false

def salt : List UInt8 := List.replicate 16 90
def dgStep (all s : List UInt8) (i : Nat) : List UInt8 := xorS (encS (padK (all.drop (16 * i))) s) s
def dgN (all : List UInt8) (i : Nat) : List UInt8 := (List.range i).foldl (dgStep all) salt
/-- The digest of some bytes. -/
def digS (b : List UInt8) : List UInt8 := dgN (padB b) ((padB b).length / 16)
theorem dgN_zero (all : List UInt8) : dgN all 0 = salt := rfl
theorem dgN_succ (all : List UInt8) (i : Nat) : dgN all (i + 1) = dgStep all (dgN all i) i := by simp [dgN, List.range_succ]
theorem dgStep_length (all s : List UInt8) (i : Nat) : (dgStep all s i).length = 16 := xorS_length _ _
theorem dgN_length (all : List UInt8) (i : Nat) : (dgN all i).length = 16 := by
  cases i with
  | zero => rfl
  | succ i => rw [dgN_succ]; exact dgStep_length _ _ _
theorem digS_length (b : List UInt8) : (digS b).length = 16 := dgN_length _ _
theorem padB_mod (b : List UInt8) : (padB b).length % 16 = 0 := by rw [padB_length, padZ]; omega
theorem padB_parts (b : List UInt8) : 16 * ((padB b).length / 16) = (padB b).length := by have := padB_mod b; omega

def leafT (k : List UInt8) : List UInt8 := 0 :: k
def nodeT (a b : List UInt8) : List UInt8 := 1 :: (a ++ b)
def rootS (l : List (List UInt8)) : List UInt8 :=
  if h0 : l.length = 0 then digS []
  else if h1 : l.length = 1 then digS (leafT (l.headD []))
  else
    have := splitS_lt (n := l.length) (by omega)
    have := splitS_pos l.length
    digS (nodeT (rootS (l.take (splitS l.length))) (rootS (l.drop (splitS l.length))))
termination_by l.length
decreasing_by all_goals (simp only [List.length_take, List.length_drop]; omega)

def textsS (l : List (List UInt8)) : List (List UInt8) :=
  if h0 : l.length = 0 then [[]]
  else if h1 : l.length = 1 then [leafT (l.headD [])]
  else
    have := splitS_lt (n := l.length) (by omega)
    have := splitS_pos l.length
    textsS (l.take (splitS l.length)) ++ (textsS (l.drop (splitS l.length)) ++ [nodeT (rootS (l.take (splitS l.length))) (rootS (l.drop (splitS l.length)))])
termination_by l.length
decreasing_by all_goals (simp only [List.length_take, List.length_drop]; omega)

def pathS (l : List (List UInt8)) (i : Nat) : List (List UInt8) :=
  if h1 : l.length ≤ 1 then []
  else
    have := splitS_lt (n := l.length) (by omega)
    have := splitS_pos l.length
    if i < splitS l.length then pathS (l.take (splitS l.length)) i ++ [rootS (l.drop (splitS l.length))]
    else pathS (l.drop (splitS l.length)) (i - splitS l.length) ++ [rootS (l.take (splitS l.length))]
termination_by l.length
decreasing_by all_goals (simp only [List.length_take, List.length_drop]; omega)

def partS (l : List (List UInt8)) (m : Nat) (whole : Bool) : List (List UInt8) :=
  if h1 : l.length ≤ 1 ∨ m = l.length then (if whole then [] else [rootS l])
  else
    have := splitS_lt (n := l.length) (by omega)
    have := splitS_pos l.length
    if m ≤ splitS l.length then partS (l.take (splitS l.length)) m whole ++ [rootS (l.drop (splitS l.length))]
    else partS (l.drop (splitS l.length)) (m - splitS l.length) false ++ [rootS (l.take (splitS l.length))]
termination_by l.length
decreasing_by all_goals (simp only [List.length_take, List.length_drop]; omega)

theorem rootS_length (l : List (List UInt8)) : (rootS l).length = 16 := by
  rw [rootS]
  split
  · exact digS_length _
  · split <;> exact digS_length _
theorem rootS_nil : rootS [] = digS [] := by rw [rootS]; rfl
theorem rootS_one (k : List UInt8) : rootS [k] = digS (leafT k) := by rw [rootS]; rfl
theorem rootS_node {l : List (List UInt8)} (h : 2 ≤ l.length) : rootS l = digS (nodeT (rootS (l.take (splitS l.length))) (rootS (l.drop (splitS l.length)))) := by
  rw [rootS, dif_neg (by omega), dif_neg (by omega)]
theorem textsS_nil : textsS [] = [[]] := by rw [textsS]; rfl
theorem textsS_one (k : List UInt8) : textsS [k] = [leafT k] := by rw [textsS]; rfl
theorem textsS_node {l : List (List UInt8)} (h : 2 ≤ l.length) : textsS l = textsS (l.take (splitS l.length)) ++ (textsS (l.drop (splitS l.length)) ++ [nodeT (rootS (l.take (splitS l.length))) (rootS (l.drop (splitS l.length)))]) := by
  rw [textsS, dif_neg (by omega), dif_neg (by omega)]
theorem pathS_one {l : List (List UInt8)} (h : l.length ≤ 1) (i : Nat) : pathS l i = [] := by rw [pathS, dif_pos h]
theorem pathS_low {l : List (List UInt8)} {i : Nat} (h : 2 ≤ l.length) (hi : i < splitS l.length) : pathS l i = pathS (l.take (splitS l.length)) i ++ [rootS (l.drop (splitS l.length))] := by
  rw [pathS, dif_neg (by omega)]
  exact if_pos hi
theorem pathS_high {l : List (List UInt8)} {i : Nat} (h : 2 ≤ l.length) (hi : ¬ i < splitS l.length) : pathS l i = pathS (l.drop (splitS l.length)) (i - splitS l.length) ++ [rootS (l.take (splitS l.length))] := by
  rw [pathS, dif_neg (by omega)]
  exact if_neg hi
theorem partS_end {l : List (List UInt8)} (whole : Bool) : partS l l.length whole = if whole then [] else [rootS l] := by rw [partS, dif_pos (.inr rfl)]
theorem partS_low {l : List (List UInt8)} {m : Nat} (whole : Bool) (h : 2 ≤ l.length) (hm : m ≠ l.length) (hi : m ≤ splitS l.length) : partS l m whole = partS (l.take (splitS l.length)) m whole ++ [rootS (l.drop (splitS l.length))] := by
  rw [partS, dif_neg (by omega)]
  exact if_pos hi
theorem partS_high {l : List (List UInt8)} {m : Nat} (whole : Bool) (h : 2 ≤ l.length) (hm : m ≠ l.length) (hi : ¬ m ≤ splitS l.length) : partS l m whole = partS (l.drop (splitS l.length)) (m - splitS l.length) false ++ [rootS (l.take (splitS l.length))] := by
  rw [partS, dif_neg (by omega)]
  exact if_neg hi
end Go.Proofs.YtinpiodfpnbllaaGreatDoor

/- The program's fold over portions. -/
namespace Go.Proofs.YtinpiodfpnbllaaGreatDoor
open Go.RowKit
set_option linter.unusedVariables false
attribute [local go_sem] run_storeCells_key

/-- The state after i portions, from s on. -/
def dgFold (all s : List UInt8) (i : Nat) : List UInt8 := (List.range i).foldl (dgStep all) s
theorem dgFold_zero (all s : List UInt8) : dgFold all s 0 = s := rfl
theorem dgFold_succ (all s : List UInt8) (i : Nat) : dgFold all s (i + 1) = dgStep all (dgFold all s i) i := by simp [dgFold, List.range_succ]
theorem dgFold_length {all s : List UInt8} (h : s.length = 16) (i : Nat) : (dgFold all s i).length = 16 := by
  cases i with
  | zero => exact h
  | succ i => rw [dgFold_succ]; exact dgStep_length _ _ _
theorem dgFold_dgN (all : List UInt8) (i : Nat) : dgFold all salt i = dgN all i := rfl
theorem padK_take {d : List UInt8} (h : 16 ≤ d.length) : padK d = d.take 16 := by
  refine List.ext_getElem (by simp [padK]; omega) fun i h1 h2 => ?_
  have : i < 16 := by simpa [padK] using h1
  simp [padK, List.getD, List.getElem?_eq_getElem (show i < d.length by omega)]
def lenV : Value → Nat
  | .slice _ n _ => n
  | _ => 0
theorem splice_all (p : List UInt8) (hp : p.length = 16) : splice (cellsB zeroK) 0 (cellsB p) = cellsB p := by
  have h1 : (cellsB p).length = 16 := by rw [cellsB_length, hp]
  have h2 : (cellsB zeroK).drop 16 = [] := rfl
  simp [splice, h1, h2]
theorem copy_src {w : World} {A : Option Addr} {c : Nat} {d : List UInt8} (h : BR w A c d) (n : Nat) : 0 < (cellsB (d.take n)).length → ∃ ad, A = some ad ∧ ∀ j v, (cellsB (d.take n))[j]? = some v → w.cell? (ad.add j) = some v := by
  intro hpos
  have hne : d.length ≠ 0 := by
    intro h0
    rw [List.eq_nil_of_length_eq_zero h0] at hpos
    simp [cellsB] at hpos
  obtain ⟨b, off, e, _, hc⟩ := h.2 hne
  refine ⟨_, e, fun j v hv => ?_⟩
  rw [Addr.add_lit]
  refine hc j v ?_
  have hj : j < (cellsB (d.take n)).length := by
    rcases Nat.lt_or_ge j (cellsB (d.take n)).length with h' | h'
    · exact h'
    · rw [List.getElem?_eq_none h'] at hv; cases hv
  rw [← hv]
  simp only [cellsB, List.getElem?_map, List.getElem?_take]
  rw [cellsB_length, List.length_take] at hj
  rw [if_pos (by omega)]

set_option maxHeartbeats 2000000 in
set_option maxRecDepth 100000 in
theorem fold_any (all s : List UInt8) (A : Option Addr) (c : Nat) (w : World) {L : Nat} (hL : all.length = L) (h16 : L % 16 = 0) (h : BR w A c all) (hs : s.length = 16) :
    Calls Tryz.prog 149 #[.agg (cellsB s).toArray, .slice A L c, .func (.func 150) #[] #[]] w fun e w' => e = .returned (.agg (cellsB (dgFold all s (L / 16))).toArray) ∧ Below w.heap.size w w' := by
  have hl0 : (L : Int) ≤ 140737488351232 := by have := h.len; omega
  have HL := Lib.hid hL
  have H := Lib.hid h
  have HS := Lib.hid hs
  have HZ := Lib.hid zero16
  have b0 := alloc2_bel w (.cells (cellsB s).toArray 24) (.cells (cellsB zeroK).toArray 24)
  have B0 := Lib.hid (blk_b0 w (cellsB s).toArray 24 (.cells (cellsB zeroK).toArray 24))
  have B1 := Lib.hid (blk_b1 w (.cells (cellsB s).toArray 24) (cellsB zeroK).toArray 24)
  clear hL h hs
  go_enter Tryz.func149, Tryz.ntmps149
  go_wp2_with fail
  rw [HZ.out]
  go_loopw [1] (fun vb wr => ∃ (i m : Nat) (A' : Option Addr) (c' : Nat), 16 * i + m = L ∧ vb = .slice A' m c' ∧ Hid (BR w A' c' (all.drop (16 * i))) ∧ Hid (Blk wr w.heap.size 24 (cellsB (dgFold all s i)).toArray) ∧ Hid (Blk wr (w.heap.size + 1) 24 (cellsB zeroK).toArray) ∧ Below w.heap.size w wr) (fun vb _ => lenV vb)
  case atStart => exact ⟨0, L, A, c, by omega, rfl, H.out, B0.out, B1.out, b0⟩
  case round =>
    obtain ⟨i, m, A', c', him, rfl, HR, HB0, HB1, hbel⟩ := hrel
    by_cases hm : 0 < m
    · have hmi : (0 : Int) < m := by omega
      have hm16 : 16 ≤ m := by omega
      have hml : (m : Int) ≤ 140737488351232 := by omega
      have hdl : (all.drop (16 * i)).length = m := by rw [List.length_drop, HL.out]; omega
      have hp16 : ((all.drop (16 * i)).take 16).length = 16 := by rw [List.length_take]; omega
      have HSUC : Hid (dgFold all s (i + 1) = xorS (encS ((all.drop (16 * i)).take 16) (dgFold all s i)) (dgFold all s i)) := by unfold Hid; rw [dgFold_succ, dgStep, padK_take (by omega)]
      have HDR := Lib.hid (HR.out.drop 16 (by omega))
      rw [List.drop_drop, show 16 * i + 16 = 16 * (i + 1) from by omega] at HDR
      have HSRC := Lib.hid (copy_src ((HR.out.below hbel).below (alloc_bel wr (.cells (cellsB zeroK).toArray 24))) 16)
      have HFL : Hid ((dgFold all s i).length = 16) := dgFold_length HS.out i
      have HDL := Lib.hid hdl
      generalize (all.drop (16 * i)).take 16 = p at hp16 HSUC HSRC
      generalize dgFold all s i = f at HSUC HB0 HFL
      have HPL := Lib.hid hp16
      have HST : Hid (∀ W, Calls Tryz.prog 150 #[.agg (cellsB f).toArray, .agg (cellsB p).toArray] W fun e w' => e = .returned (.agg (cellsB (xorS (encS p f) f)).toArray) ∧ Below W.heap.size W w') := fun W => hashStep_any f p W HFL.out hp16
      have HRL : Hid ((xorS (encS p f) f).length = 16) := xorS_length _ _
      generalize xorS (encS p f) f = r at HSUC HST HRL
      have hrl : (cellsB r).length = 16 := by rw [cellsB_length, HRL.out]
      have hra := all16 r
      have hsl : ∀ W, (Instr.slice 22 (.slice A' m c') (some (.int .i64 16)) none none).run Tryz.prog W = .ok (.slice (dropP A' 16 c') (m - 16) (c' - 16)) W := fun W => slice_bytes_from W A' m c' 16 hm16
      clear hp16 hdl
      go_wp2_with (first
        | (rw [HZ.out]; refine wpList_copy_splice rfl (.tmp 12) (.tmp 13) 22 22 rfl 5 Tryz.underlying22 (by kernel_rfl) (some ⟨wr.heap.size, 0, none⟩) A' 16 16 m c' rfl rfl wr.heap.size 0 (cellsB zeroK) 24 (Blk.new wr _ _) (cellsB p) (by rw [cellsB_length, HPL.out]; simp [Nat.min_def]; omega) (fun h => ⟨rfl, HSRC.out h⟩) (by rw [cellsB_length, HPL.out]; exact Nat.le_refl _) (cells_one p) wr.heap.size wr (alloc_bel _ _) (Nat.le_refl _) ?_; intro w4 hg4 hb4; rw [splice_all p HPL.out] at hg4; have G4 := hg4; rw [show (goInt (cellsB p).length) = .int .i64 16 from by rw [cellsB_length, HPL.out]; rfl])
        | (refine wpList_load_row rfl 24 (.tmp 3) rfl w.heap.size rfl 24 (cellsB f).toArray (0, 0) _ (HB0.out.below' hb4) under_key rfl (cellsB_size _ HFL.out) ?_)
        | (refine wpList_load_row rfl 24 (.tmp 7) rfl wr.heap.size rfl 24 (cellsB p).toArray (0, 0) _ G4.out under_key rfl (cellsB_size _ HPL.out) ?_)
        | (go_at_call 150; refine (HST.out _).mono ?_; rintro e w5 ⟨rfl, hb5⟩; have Q0 := (HB0.out.below' hb4).below' hb5; have Q1 := Lib.hid ((HB1.out.below' hb4).below' hb5); have hr5 : (rowAt w5 w.heap.size).size = 16 := (by rw [Q0.row]; rw [List.size_toArray, cellsB_length, HFL.out]); have hf5 := Q0.free; have HQ0 := Lib.hid Q0; have b5 := bel_on (w0 := wr) hb4 hb5; clear Q0))
      have hbF := below_setRow (bel_on hbel b5) (g := w.heap.size) (Nat.le_refl _) (cellsB r).toArray
      exact ⟨⟨i + 1, m - 16, dropP A' 16 c', c' - 16, by omega, rfl, HDR.out, by rw [HSUC.out]; exact HQ0.out.setRow _, (setRow_other _ _ _ _ (by omega)).trans Q1.out, hbF⟩, by simp only [lenV]; omega⟩
    · obtain rfl : m = 0 := by omega
      have HI : Hid (L / 16 = i) := by unfold Hid; omega
      have HFL : Hid ((dgFold all s i).length = 16) := dgFold_length HS.out i
      obtain ⟨f, hf⟩ : ∃ f, dgFold all s i = f := ⟨_, rfl⟩
      rw [hf] at HB0 HFL
      have HF := Lib.hid hf
      have hfl : (cellsB f).length = 16 := by rw [cellsB_length, HFL.out]
      have hall := all16 f
      have hr3 : (rowAt wr (w.heap.size + 1)).size = 16 := by rw [HB1.out.row]; rfl
      have hf3 := HB1.out.free
      clear hf
      go_wp2_with (refine wpList_load_row rfl 24 (.tmp 3) rfl w.heap.size rfl 24 (cellsB f).toArray (0, 0) _ HB0.out under_key rfl (cellsB_size _ HFL.out) ?_)
      exact bodyPost_ret (results_cell_row rfl _ _ (w.heap.size + 1) _ _ (0, 0) _ rfl (HB1.out.setRow (cellsB f).toArray) under_key rfl (cellsB_size _ HFL.out)) rfl ⟨by rw [HI.out, HF.out], below_setRow hbel (by omega) _⟩
end Go.Proofs.YtinpiodfpnbllaaGreatDoor

/- The padded text as the program makes it, in plain words. -/
namespace Go.Proofs.YtinpiodfpnbllaaGreatDoor
set_option linter.unusedVariables false

theorem by8_small {n : Nat} (h : n < 65536) : by8 (UInt64.ofNat n) = [0, 0, 0, 0, 0, 0, UInt8.ofNat (n / 256), UInt8.ofNat n] := by
  have hn : (UInt64.ofNat n).toNat = n := by rw [UInt64.toNat_ofNat', Nat.mod_eq_of_lt (by omega)]
  have g : ∀ k : Nat, k < 64 → ((UInt64.ofNat n) >>> (UInt64.ofNat k)).toUInt8 = UInt8.ofNat (n / 2 ^ k) := fun k hk => by
    apply UInt8.toNat_inj.1
    rw [UInt64.toNat_toUInt8, toNat_shr _ _ hk, hn]
    simp
  have z : ∀ k : Nat, 16 ≤ k → UInt8.ofNat (n / 2 ^ k) = 0 := fun k hk => by
    have : n / 2 ^ k = 0 := Nat.div_eq_of_lt (Nat.lt_of_lt_of_le h (show 2 ^ 16 ≤ 2 ^ k from Nat.pow_le_pow_right (by decide) hk))
    rw [this]; rfl
  have g0 : (UInt64.ofNat n).toUInt8 = UInt8.ofNat n := by
    apply UInt8.toNat_inj.1
    rw [UInt64.toNat_toUInt8, hn]
    simp
  unfold by8
  rw [show (56 : UInt64) = UInt64.ofNat 56 from rfl, show (48 : UInt64) = UInt64.ofNat 48 from rfl, show (40 : UInt64) = UInt64.ofNat 40 from rfl, show (32 : UInt64) = UInt64.ofNat 32 from rfl, show (24 : UInt64) = UInt64.ofNat 24 from rfl, show (16 : UInt64) = UInt64.ofNat 16 from rfl, show (8 : UInt64) = UInt64.ofNat 8 from rfl]
  rw [g 56 (by omega), g 48 (by omega), g 40 (by omega), g 32 (by omega), g 24 (by omega), g 16 (by omega), g 8 (by omega), g0, z 56 (by omega), z 48 (by omega), z 40 (by omega), z 32 (by omega), z 24 (by omega), z 16 (by omega)]

/-- The text as it is filled in. -/
theorem padB_sets (b : List UInt8) {n L : Nat} (hL : b.length = L) (h : L < 65536) (hn : n = L + 9 + padZ L) :
    (((b ++ List.replicate (n - L) 0).set L 128).set (n - 2) (UInt8.ofNat (L / 256))).set (n - 1) (UInt8.ofNat L) = padB b := by
  have hz : padZ L ≤ 15 := by unfold padZ; omega
  refine List.ext_getElem? fun i => ?_
  rw [padB, hL, by8_small h]
  simp only [List.getElem?_set, List.getElem?_append, List.getElem?_replicate, List.getElem?_cons, List.length_set, List.length_append, List.length_replicate, hL]
  by_cases h1 : n - 1 = i
  · subst h1
    rw [if_pos rfl, if_pos (by omega), if_neg (by omega), if_neg (by omega), if_neg (by omega), show n - 1 - L - 1 - padZ L = 7 from by omega]
    rfl
  · rw [if_neg h1]
    by_cases h2 : n - 2 = i
    · subst h2
      rw [if_pos rfl, if_pos (by omega), if_neg (by omega), if_neg (by omega), if_neg (by omega), show n - 2 - L - 1 - padZ L = 6 from by omega]
      rfl
    · rw [if_neg h2]
      by_cases h3 : L = i
      · subst h3
        rw [if_pos rfl, if_pos (by omega), if_neg (by omega), if_pos (by omega)]
      · rw [if_neg h3]
        by_cases h4 : i < L
        · rw [if_pos h4, if_pos h4]
        · rw [if_neg h4, if_neg h4, if_neg (show ¬ i - L = 0 by omega)]
          by_cases h5 : i < n
          · rw [if_pos (show i - L < n - L by omega)]
            by_cases h6 : i - L - 1 < padZ L
            · rw [if_pos h6, if_pos h6]
            · rw [if_neg h6]
              obtain ⟨j, hj⟩ : ∃ j, i - L - 1 - padZ L = j := ⟨_, rfl⟩
              rw [hj]
              have : j < 6 := by omega
              match j, this with
              | 0, _ => rfl
              | 1, _ => rfl
              | 2, _ => rfl
              | 3, _ => rfl
              | 4, _ => rfl
              | 5, _ => rfl
          · rw [if_neg (show ¬ i - L < n - L by omega), if_neg (show ¬ i - L - 1 < padZ L by omega)]
            obtain ⟨j, hj⟩ : ∃ j, i - L - 1 - padZ L = j + 8 := ⟨i - L - 1 - padZ L - 8, by omega⟩
            rw [hj]
            rfl
end Go.Proofs.YtinpiodfpnbllaaGreatDoor

/- The first state of a digest, in plain words. -/
namespace Go.Proofs.YtinpiodfpnbllaaGreatDoor
set_option linter.unusedVariables false

def saltJ (i : Nat) : List UInt8 := List.replicate i 90 ++ List.replicate (16 - i) 0
theorem saltJ_length {i : Nat} (h : i ≤ 16) : (saltJ i).length = 16 := by simp [saltJ]; omega
theorem saltJ_set {i : Nat} (h : i < 16) : (saltJ i).set i 90 = saltJ (i + 1) := by
  refine List.ext_getElem? fun j => ?_
  simp only [saltJ, List.getElem?_set, List.getElem?_append, List.getElem?_replicate, List.length_replicate, List.length_append]
  by_cases h1 : i = j
  · subst h1
    rw [if_pos rfl, if_pos (by omega), if_pos (by omega), if_pos (by omega)]
  · rw [if_neg h1]
    by_cases h2 : j < i
    · rw [if_pos h2, if_pos h2, if_pos (by omega), if_pos (by omega)]
    · rw [if_neg h2, if_neg (show ¬ j < i + 1 by omega)]
      by_cases h3 : j < 16
      · rw [if_pos (by omega), if_pos (by omega)]
      · rw [if_neg (by omega), if_neg (by omega)]
end Go.Proofs.YtinpiodfpnbllaaGreatDoor
