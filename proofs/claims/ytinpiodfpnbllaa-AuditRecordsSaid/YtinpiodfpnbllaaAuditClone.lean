/-
  slices.Clone at bytes.
-/
import Derived.Test.YtinpiodfpnbllaaMadeBytes
import Derived.Lib.SliceRun
namespace Go.Proofs.Ytinpiodfpnbllaa
open Go.RowKit
set_option linter.unusedVariables false

theorem eql_bytes_nil (w : World) (a : Option Addr) (n c n' c' : Nat) : (binOp .eql 24 (.slice a n c) (.slice none n' c')).run Try.prog w = .ok (.bool a.isNone) w := Lib.run_eql_slice_nil w _ _ a n c n' c' Try.underlying24
attribute [local go_sem] eql_bytes_nil
theorem BR.none_nil {w : World} {c : Nat} {b : List UInt8} (h : BR w none c b) : b = [] := by
  apply Classical.byContradiction
  intro hne
  obtain ⟨g, off, e, _⟩ := h.2 (by have := List.length_pos_iff.2 hne; omega)
  cases e
set_option maxHeartbeats 1000000 in
theorem Clone_any (A : Option Addr) (c : Nat) (b : List UInt8) (w : World) {n : Nat} (hn : b.length = n) (h : BR w A c b) :
    Calls Try.prog 59 #[.slice A n c] w fun e w' => (∃ A' c', e = .returned (.slice A' n c') ∧ OB w.heap.size w' A' c' b) ∧ Below w.heap.size w w' := by
  have hl0 : (n : Int) ≤ 140737488351232 := by have := h.len; omega
  have HN := Lib.hid hn
  have H := Lib.hid h
  cases A with
  | none =>
    have hb := h.none_nil
    subst hb
    obtain rfl : n = 0 := by simpa using hn.symm
    clear hn h
    go_enter Try.func59, Try.ntmps59
    go_wp2_with fail
    go_ret
    exact ⟨⟨none, 0, rfl, OB.nil' _ _⟩, Below.refl _ _⟩
  | some a =>
    clear hn h
    go_enter Try.func59, Try.ntmps59
    go_wp2_with (at_builtin; refine wpList_append_bytes _ rfl (.tmp 5) (.tmp 6) rfl w.heap.size (some ⟨w.heap.size, 0, none⟩) 0 0 [] rfl rfl (OB.lit0 _ _ (Nat.le_refl _)) (some a) n c b HN.out rfl ((H.out.below (alloc_bel _ _)).src HN.out) (by have := hl0; omega) (by simp) ?_; intro A1 c1 w1 hon1 hbl1 hg1; clear hg1; have HON1 := Lib.hid hon1; clear hon1; simp only [Nat.zero_add])
    go_ret
    exact ⟨⟨A1, c1, rfl, HON1.out⟩, (alloc_bel w _).trans hbl1⟩
end Go.Proofs.Ytinpiodfpnbllaa
