/-
  Two recordings of the same contents are the same.
-/
import Derived.Test.YtinpiodfpnbllaaRecKit
import Derived.Test.YtinpiodfpnbllaaRowsOwn
import Derived.Test.YtinpiodfpnbllaaArrEq
namespace Go.Proofs.Ytinpiodfpnbllaa
open Go.RowKit
set_option linter.unusedVariables false

theorem recC_32 {x c : List UInt8} (A : Option Addr) (n cap : Nat) (hx : x.length = 16) (hc : c.length = 16) : (recC x c A n cap)[32]? = some (.slice A n cap) := by
  have hl : (cellsB x).length = 16 := by rw [cellsB_length, hx]
  have hl2 : (cellsB c).length = 16 := by rw [cellsB_length, hc]
  rw [recC, List.getElem?_append_right (by omega), hl, List.getElem?_append_right (by omega), hl2]
  rfl
theorem equalIn_key_self (w : World) (a : List UInt8) (ha : Hid (a.length = 16)) : (Op.equalIn 10000 23 (.agg (cellsB a).toArray) (.agg (cellsB a).toArray)).run Try.prog w = .ok true w := by
  have := run_equalIn_bytes (P := Try.prog) w 9998 23 5 16 Try.underlying23 Try.underlying5 (size_one (by kernel_rfl)) a a ha.out ha.out
  unfold cellsB
  have e : (fun x : UInt8 => Value.int .u8 (x.toNat : Int)) = Extern.Stop.cell := rfl
  rw [e, this]
  simp
attribute [local go_sem] equalIn_key_self
set_option maxHeartbeats 1000000 in
set_option maxRecDepth 100000 in
theorem same_any (x c d : List UInt8) (A : Option Addr) (cap : Nat) (A' : Option Addr) (cap' : Nat) (w : World) {n : Nat} (hn : d.length = n) (hx : x.length = 16) (hc : c.length = 16) (h : BR w A cap d) (h' : BR w A' cap' d) :
    Calls Try.prog 10 #[.agg (recC x c A n cap).toArray, .agg (recC x c A' n cap').toArray] w fun e w' => e = .returned (.bool true) ∧ Below w.heap.size w w' := by
  have HX := Lib.hid hx
  have HC := Lib.hid hc
  have hl0 : (n : Int) ≤ 140737488351232 := by have := h.len; omega
  have e1 := recC_32 A n cap hx hc
  have e2 := recC_32 A' n cap' hx hc
  have hs1 : (convert 24 9 (.slice A n cap)).run Try.prog ((w.alloc (.cells (recC x c A n cap).toArray 26)).alloc (.cells (recC x c A' n cap').toArray 26)) = .ok (.string (strB d)) _ := run_string_br (h.below (alloc2_bel w _ _)) n hn
  have hs2 : (convert 24 9 (.slice A' n cap')).run Try.prog ((w.alloc (.cells (recC x c A n cap).toArray 26)).alloc (.cells (recC x c A' n cap').toArray 26)) = .ok (.string (strB d)) _ := run_string_br (h'.below (alloc2_bel w _ _)) n hn
  have b0 := blk_b0 w (recC x c A n cap).toArray 26 (.cells (recC x c A' n cap').toArray 26)
  have b1 := blk_b1 w (.cells (recC x c A n cap).toArray 26) (recC x c A' n cap').toArray 26
  have B0 := Lib.hid b0
  have B1 := Lib.hid b1
  clear b0 b1 hx hc h h' hn
  go_enter Try.func10, Try.ntmps10
  go_wp2_with (first
    | (refine wpList_load_mid rfl 23 (.tmp 5) rfl w.heap.size 0 rfl (cellsB x) _ (rec_box B0.out) Try.underlying23 rfl (key_info HX.out) ?_)
    | (refine wpList_load_mid rfl 23 (.tmp 7) rfl (w.heap.size + 1) 0 rfl (cellsB x) _ (rec_box B1.out) Try.underlying23 rfl (key_info HX.out) ?_)
    | (refine BigFrame.wpList_want (by kernel_rfl) fun K hK => wp_load_mid 23 (.tmp 11) rfl w.heap.size 16 rfl (cellsB c) _ (rec_check B0.out HX.out) Try.underlying23 rfl (key_info HC.out) (hK _ _ ?_))
    | (refine BigFrame.wpList_want (by kernel_rfl) fun K hK => wp_load_mid 23 (.tmp 13) rfl (w.heap.size + 1) 16 rfl (cellsB c) _ (rec_check B1.out HX.out) Try.underlying23 rfl (key_info HC.out) (hK _ _ ?_)))
  go_ret
  exact ⟨by simp, alloc2_bel w _ _⟩
end Go.Proofs.Ytinpiodfpnbllaa
