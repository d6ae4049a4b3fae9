/-
  Rows of bytes that the call makes; bytes with an error.
-/
import Derived.Test.YtinpiodfpnbllaaRowsOwn
import Derived.Test.YtinpiodfpnbllaaKeyMem
namespace Go.Proofs.Ytinpiodfpnbllaa
open Go.RowKit
set_option linter.unusedVariables false

/-- A row of zeros. -/
theorem made_bytes (n : Nat) : madeCells #[Value.int .u8 0] n = (cellsB (List.replicate n 0)).toArray := by
  apply Array.toList_inj.1
  rw [toList_madeCells_one]
  simp [cellsB]
theorem Blk.ob {B : Nat} {w : World} {g : Nat} {l : List UInt8} {n c : Nat} (h : Blk w g 5 (cellsB l).toArray) (hB : B ≤ g) (hn : l.length = n) (hc : c = n) (hc2 : n ≤ 1000000) : OB B w (some ⟨g, 0, none⟩) c l := by
  subst hn hc
  exact ⟨by simp [cellsB], .inr ⟨g, _, _, rfl, hB, h, Nat.le_refl _, by simp only [maxLen]; omega, by simp [cellsB], List.take_of_length_le (by simp [cellsB])⟩⟩
theorem ofNat_toNat_int {x : Int} (h0 : 0 ≤ x) (h1 : x ≤ 1000) : ((UInt64.ofNat x.toNat).toNat : Int) = x := by
  rw [UInt64.toNat_ofNat', Nat.mod_eq_of_lt (by omega)]
  omega
/-- What both hand back. -/
def BytesErr (B : Nat) (r : List UInt8 × Int) (e : Ending) (w' : World) : Prop := ∃ A c, e = .returned (.tuple #[.slice A r.1.length c, .int .i64 r.2]) ∧ OB B w' A c r.1
theorem bytesErr_nil (B : Nat) (w : World) (x : Int) {r : List UInt8 × Int} (h : r = ([], x)) : BytesErr B r (.returned (.tuple #[.slice none 0 0, .int .i64 x])) w := by
  subst h
  exact ⟨none, 0, rfl, OB.nil' _ _⟩
end Go.Proofs.Ytinpiodfpnbllaa
