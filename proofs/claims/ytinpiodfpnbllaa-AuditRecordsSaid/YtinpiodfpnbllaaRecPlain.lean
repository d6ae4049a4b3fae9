/-
  Recordings, in plain words.
-/
import Derived.Test.YtinpiodfpnbllaaStreamPlain
import Derived.Test.YtinpiodfpnbllaaAuditWords
import Derived.Test.YtinpiodfpnbllaaRecKit
namespace Go.Proofs.Ytinpiodfpnbllaa
open Go.RowKit
set_option linter.unusedVariables false

/-- A recording, or the error. -/
structure RecV where
  x : List UInt8
  c : List UInt8
  d : List UInt8
  e : Int
/-- No recording. -/
def noRec (e : Int) : RecV := ⟨zeroK, zeroK, [], e⟩
def recS (k y b : List UInt8) : RecV := if 16384 < b.length then noRec 4 else ⟨encS k y, chkS y, streamS y 0 b, 0⟩
def rekS (k a x c b : List UInt8) : RecV := if chkS (decS k x) = c then ⟨encS a (decS k x), c, b, 0⟩ else noRec 53
def plyS (k x c b : List UInt8) : List UInt8 × Int := if 16384 < b.length then ([], 4) else if chkS (decS k x) = c then (streamS (decS k x) 0 b, 0) else ([], 53)
/-- What is handed back, in memory of the call's own. -/
def RecErr (B : Nat) (r : RecV) (e : Ending) (w' : World) : Prop := ∃ A c, e = .returned (.tuple #[.agg (recC r.x r.c A r.d.length c).toArray, .int .i64 r.e]) ∧ OB B w' A c r.d
theorem chkS_length (k : List UInt8) : (chkS k).length = 16 := rfl
theorem recS_x (k y b : List UInt8) : (recS k y b).x.length = 16 := by unfold recS noRec; split <;> rfl
theorem recS_c (k y b : List UInt8) : (recS k y b).c.length = 16 := by unfold recS noRec; split <;> rfl
theorem recS_d (k y b : List UInt8) : (recS k y b).d.length ≤ b.length := by
  unfold recS noRec
  split
  · simp
  · simp [streamS_length]
theorem rekS_x (k a x c b : List UInt8) : (rekS k a x c b).x.length = 16 := by unfold rekS noRec; split <;> rfl
theorem rekS_c (k a x c b : List UInt8) (hc : c.length = 16) : (rekS k a x c b).c.length = 16 := by
  unfold rekS noRec
  split
  · exact hc
  · rfl
theorem rekS_d (k a x c b : List UInt8) : (rekS k a x c b).d.length ≤ b.length := by
  unfold rekS noRec
  split <;> simp
theorem plyS_l (k x c b : List UInt8) : (plyS k x c b).1.length ≤ b.length := by
  unfold plyS
  split
  · simp
  · split
    · simp [streamS_length]
    · simp
end Go.Proofs.Ytinpiodfpnbllaa
