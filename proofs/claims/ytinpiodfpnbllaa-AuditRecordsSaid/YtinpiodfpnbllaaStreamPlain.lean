/-
  The stream portion by portion, in plain words.
-/
import Derived.Test.YtinpiodfpnbllaaRefXor
import Derived.Test.YtinpiodfpnbllaaRefPortion
namespace Go.Proofs.Ytinpiodfpnbllaa
open Go.RowKit
set_option linter.unusedVariables false

theorem stream_at {k : List UInt8} {n : UInt64} {b : List UInt8} {i j : Nat} (hj : j < 16) (h : 16 * i + j < b.length) : (xorS (padK (b.drop (16 * i))) (encS k (tagS 1 (UInt64.ofNat i) n))).getD j 0 = stB1 k n b (16 * i + j) := by
  unfold stB1
  rw [show (16 * i + j) / 16 = i from by omega, show (16 * i + j) % 16 = j from by omega]
  simp [xorS, padK, List.getD, List.getElem?_range hj, List.getElem?_drop]
theorem stream_take {k : List UInt8} {n : UInt64} {b : List UInt8} {m : Nat} (h : m < b.length) : (streamS k n b).take (m + 1) = (streamS k n b).take m ++ [stB1 k n b m] := by
  rw [List.take_succ_eq_append_getElem (by rw [streamS_length]; exact h)]
  simp [streamS]
theorem stream_all {k : List UInt8} {n : UInt64} {b : List UInt8} {m : Nat} (h : b.length ≤ m) : (streamS k n b).take m = streamS k n b := List.take_of_length_le (by rw [streamS_length]; exact h)
end Go.Proofs.Ytinpiodfpnbllaa
