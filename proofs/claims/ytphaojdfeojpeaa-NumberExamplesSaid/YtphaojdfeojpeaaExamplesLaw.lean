/-
  The plain facts of the chapter's examples.
-/
import Derived.Test.YtphaojdfeojpeaaRatioLaw
namespace Go.Proofs.Ytphaojdfeojpeaa
open Go.RowKit
set_option linter.unusedVariables false

theorem d1 (x : Nat) (h0 : x ≠ 0) (h : x < 4294967296) : digs x = [x] := digs_one h0 h
theorem ls (x : Nat) (h : x < 4294967296) : (digs x).length ≤ 16 := len_small (by omega)
def seventeen : List Nat := [0, 0, 0, 0, 0, 0, 0, 0, 0, 0, 0, 0, 0, 0, 0, 0, 1]
def half : List Nat := [0, 0, 0, 0, 0, 0, 0, 0, 1]
def fullL : List Nat := [4294967295, 4294967295, 4294967295, 4294967295, 4294967295, 4294967295, 4294967295, 4294967295, 4294967295, 4294967295, 4294967295, 4294967295, 4294967295, 4294967295, 4294967295, 4294967295]
theorem ex_sub : subS (digs 4294967296) (digs 1) = ([4294967295], 0) := by
  rw [subS_yes (validB_of (len_small (by omega))) (validB_of (ls 1 (by omega))) (by rw [val_digs, val_digs]; omega), val_digs, val_digs, show 4294967296 - 1 = 4294967295 from rfl, d1 4294967295 (by omega) (by omega)]
theorem ex_less : subS (digs 1) (digs 2) = ([], 11) := subS_no (validB_of (ls 1 (by omega))) (validB_of (ls 2 (by omega))) (by rw [val_digs, val_digs]; omega)
theorem big_no {n : Nat} (h : 4294967296 ^ 16 ≤ n) : ¬ (digs n).length ≤ 16 := fun e => by
  have := lt_of_digs_len e
  omega
theorem full_valid : validB fullL = true := by decide +kernel
theorem half_valid : validB half = true := by decide +kernel
theorem ex_add : addS fullL (digs 1) = ([], 4) := by
  rw [addS_v full_valid (validB_of (ls 1 (by omega))), val_digs]
  exact limS_no (big_no (by decide +kernel))
theorem ex_mul : mulS half half = ([], 4) := by
  rw [mulS_v half_valid half_valid]
  exact limS_no (big_no (by decide +kernel))
theorem ex_c1 : chkS [1, 0] = 8 := by decide +kernel
theorem ex_c2 : chkS seventeen = 8 := by decide +kernel
theorem ex_c3 : chkS fullL = 0 := by rw [chkS, if_pos full_valid]
theorem ex_div : divS (digs 7) [] = ([], [], 10) := divS_0 (validB_of (ls 7 (by omega))) valid_nil rfl
theorem ex_gcd : gcdS [] (digs 5) = ([5], 0) := by
  rw [gcdS_v valid_nil (validB_of (ls 5 (by omega))), val_digs, show gcdN (val []) 5 = 5 from rfl, d1 5 (by omega) (by omega)]
theorem ex_p1 : parseS [] = ([], 12) := by decide +kernel
theorem ex_p2 : parseS [48, 49] = ([], 12) := by decide +kernel
theorem ex_p3 : parseS [45, 49] = ([], 12) := by decide +kernel
theorem ex_r1 : ratS [] (digs 9) = (([], [1]), 0) := by
  rw [ratS_v valid_nil (validB_of (ls 9 (by omega))) (digs_ne (by omega)), val_digs, lowS, show gcdN (val []) 9 = 9 from rfl, show val [] / 9 = 0 from rfl, show 9 / 9 = 1 from rfl, d1 1 (by omega) (by omega), digs_zero]
theorem ex_r2 : ratS (digs 1) [] = (([], []), 10) := by rw [ratS, bothB_yes (validB_of (ls 1 (by omega))) valid_nil, if_pos rfl, if_pos rfl]
theorem vf_small {x y : Nat} (hx : x < 4294967296) (hy : y < 4294967296) (h0 : y ≠ 0) (hg : gcdN x y = 1) : vfB (digs x) (digs y) = true := vf_low h0 (ls x hx) (ls y hy) hg
theorem both_small {x y z t : Nat} (h1 : vfB (digs x) (digs y) = true) (h2 : vfB (digs z) (digs t) = true) : bothF (digs x) (digs y) (digs z) (digs t) = true := by unfold bothF; rw [h1, h2]; rfl
theorem ex_addf : addFS (digs 1) (digs 2) (digs 1) (digs 3) = (([5], [6]), 0) := by
  rw [addFS_yes (both_small (vf_small (by omega) (by omega) (by omega) rfl) (vf_small (by omega) (by omega) (by omega) rfl))]
  simp only [val_digs]
  rw [show lowS (1 * 3 + 1 * 2) (2 * 3) = (digs 5, digs 6) from rfl, d1 5 (by omega) (by omega), d1 6 (by omega) (by omega)]
  rfl
theorem ex_mulf : mulFS (digs 2) (digs 3) (digs 3) (digs 4) = (([1], [2]), 0) := by
  rw [mulFS_yes (both_small (vf_small (by omega) (by omega) (by omega) rfl) (vf_small (by omega) (by omega) (by omega) rfl))]
  simp only [val_digs]
  rw [show lowS (2 * 3) (3 * 4) = (digs 1, digs 2) from rfl, d1 1 (by omega) (by omega), d1 2 (by omega) (by omega)]
  rfl
theorem ex_cmpf : cmpFS (digs 1) (digs 3) (digs 2) (digs 5) = (-1, 0) := by
  rw [cmpFS, if_pos (both_small (vf_small (by omega) (by omega) (by omega) rfl) (vf_small (by omega) (by omega) (by omega) rfl))]
  simp only [val_digs]
  rfl
theorem ex_g1 : grpE 23 11 1 = 13 := grpE_no (by decide +kernel)
theorem ex_g2 : grpE 23 22 5 = 13 := grpE_no (by decide +kernel)
theorem ex_pr2 : primeB 1048573 = true := by decide +kernel
theorem ex_pow : powm 2 0 1 = 0 := rfl
theorem ex_inv1 : invV 2 4 = .tuple #[.int .u64 0, .int .i64 10] := by
  have h : ¬ Nat.gcd 2 4 = 1 := by decide
  rw [invV, if_neg h]
theorem ex_inv2 : invV 0 1 = .tuple #[.int .u64 0, .int .i64 0] := by
  have h : Nat.gcd 0 1 = 1 := rfl
  rw [invV, if_pos h, ← inv_is (a := 0) (m := 1) (x := 0) (by omega) rfl]
  rfl
theorem ex_of : digs 0 = [] := digs_zero
theorem ex_pr1 : primeB 1 = false := by decide +kernel
end Go.Proofs.Ytphaojdfeojpeaa
