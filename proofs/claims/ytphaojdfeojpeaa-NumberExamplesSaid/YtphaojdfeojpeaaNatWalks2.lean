/-
  Of, plus, minus, times: what they compute.
-/
import Derived.Test.YtphaojdfeojpeaaNatWalks1
namespace Go.Proofs.Ytphaojdfeojpeaa
open Go.RowKit
set_option linter.unusedVariables false

theorem BlkN.lit1 (w : World) (x : Nat) (hx : x < 4294967296) : BlkN (w.alloc (.cells #[Value.int .u32 (x : Nat)] 85)) w.heap.size [x] :=
  ⟨by rw [heap_alloc_new]; rfl, Dig.one hx⟩
theorem BlkN.lit2 (w : World) (x y : Nat) (hx : x < 4294967296) (hy : y < 4294967296) : BlkN (w.alloc (.cells #[Value.int .u32 (x : Nat), Value.int .u32 (y : Nat)] 85)) w.heap.size [x, y] :=
  ⟨by rw [heap_alloc_new]; rfl, fun z hz => by
    rcases List.mem_cons.1 hz with h | h
    · omega
    · have := List.mem_singleton.1 h; omega⟩
theorem val_two (n : Nat) (h : n < 18446744073709551616) : val [n % 4294967296, n / 4294967296] = n := by simp only [val]; omega

set_option maxHeartbeats 400000 in
theorem Of_any (n : Nat) (w : World) (h : n < 18446744073709551616) :
    Calls Try.prog 32 #[.int .u64 n] w fun e w' => ∃ A' c', e = .returned (.slice A' (digs n).length c') ∧ NF w.heap.size w' A' c' (digs n) ∧ Below w.heap.size w w' := by
  have H := Lib.hid h
  have h1 : (n : Int) ≤ 18446744073709551615 := by omega
  have B := BlkN.lit2 w (n % 4294967296) (n / 4294967296) (by omega) (by omega)
  have e1 : ((n % 4294967296 : Nat) : Int) = (n : Int) % 4294967296 := by omega
  have e2 : ((n / 4294967296 : Nat) : Int) = (n : Int) / 4294967296 := by omega
  rw [e1, e2] at B
  clear h e1 e2
  go_enter Try.func32, Try.ntmps32
  go_wp2_with fail
  refine (trim_any _ _ _ _ rfl (B.nf (B := w.heap.size) (Nat.le_refl _) (Nat.le_refl _) (by simp) (by simp)).1).mono ?_
  rintro e w1 ⟨rfl, rfl⟩
  go_wp2_with fail
  go_ret
  rw [val_two n H.out]
  have hf := digs_val2 n H.out
  refine ⟨_, _, rfl, ?_, (Below.refl _ _).alloc (Nat.le_refl _) _⟩
  obtain ⟨k, hk⟩ := hf
  rw [hk]
  exact ((B.nf (B := w.heap.size) (Nat.le_refl _) (Nat.le_refl _) (by simp) (by simp))).take k
set_option maxHeartbeats 400000 in
theorem refOf_any (n : Nat) (w : World) (h : n < 18446744073709551616) :
    Calls Try.prog 33 #[.int .u64 n] w fun e w' => ∃ A' c', e = .returned (.slice A' (digs n).length c') ∧ NF w.heap.size w' A' c' (digs n) ∧ Below w.heap.size w w' := by
  have H := Lib.hid h
  have h1 : (n : Int) ≤ 18446744073709551615 := by omega
  have B := BlkN.lit2 w (n % 4294967296) (n / 4294967296) (by omega) (by omega)
  have e1 : ((n % 4294967296 : Nat) : Int) = (n : Int) % 4294967296 := by omega
  have e2 : ((n / 4294967296 : Nat) : Int) = (n : Int) / 4294967296 := by omega
  rw [e1, e2] at B
  clear h e1 e2
  go_enter Try.func33, Try.ntmps33
  go_wp2_with fail
  refine (refTrim_any _ _ _ _ rfl (B.nf (B := w.heap.size) (Nat.le_refl _) (Nat.le_refl _) (by simp) (by simp)).1).mono ?_
  rintro e w1 ⟨A', c', rfl, hnf, hb⟩
  rw [val_two n H.out] at hnf ⊢
  go_wp2_with fail
  go_ret
  exact ⟨_, _, rfl, hnf.mono (by simp), ((Below.refl _ _).alloc (Nat.le_refl _) _).trans (hb.mono (by simp))⟩

/-- A number in new memory. -/
theorem twin_any (A : Option Addr) (c : Nat) (l : List Nat) (w : World) {n : Nat} (hn : l.length = n) (h : NR w A c l) :
    Calls Try.prog 34 #[.slice A n c] w fun e w' => ∃ A' c', e = .returned (.slice A' n c') ∧ NF w.heap.size w' A' c' l ∧ Below w.heap.size w w' := by
  have hlen : n ≤ 35184372088832 := by have := h.len; omega
  go_enter Try.func34, Try.ntmps34
  go_wp2_with (at_builtin; go_loud (refine wpList_append_nat _ rfl (.tmp 3) (.tmp 4) rfl w.heap.size (some ⟨w.heap.size, 0, none⟩) 0 0 [] rfl rfl ⟨World.ownsRow_lit w #[] 0 (Nat.le_refl _) (by simp [maxLen]) (by simp), Dig.nil, by simp⟩ A n c l hn rfl (hn ▸ (h.alloc _).src) h.dig (by omega) (by simp) ?_); intro A' c' w' hon hbel hg; clear hg)
  go_ret
  exact ⟨A', c', ret_slice (by simp), hon.nf, ((Below.refl _ _).alloc (Nat.le_refl _) _).trans hbel⟩
end Go.Proofs.Ytphaojdfeojpeaa
