/-
  Undoing a round.
-/
import Derived.Test.YtinpiodfpnbllaaSpeckWalks
namespace Go.Proofs.Ytinpiodfpnbllaa
open Go.RowKit
set_option linter.unusedVariables false

theorem deW_step (k p : W2) (j : Nat) (h : j < 32) : deW k p (32 - j) = bck (ksS k j).2 (deW k p (32 - (j + 1))) := by
  obtain ⟨m, hm⟩ : ∃ m, m = 32 - (j + 1) := ⟨_, rfl⟩
  rw [← hm, show 32 - j = m + 1 from by omega, deW, show 31 - m = j from by omega]
set_option maxHeartbeats 1000000 in
set_option maxRecDepth 100000 in
theorem back_any (p : W2) (k : UInt64) (w : World) : Calls Try.prog 147 #[.agg #[.int .u64 (p.1.toNat : Int), .int .u64 (p.2.toNat : Int)], .int .u64 (k.toNat : Int)] w fun e w' => e = .returned (.agg #[.int .u64 ((bck k p).1.toNat : Int), .int .u64 ((bck k p).2.toNat : Int)]) ∧ Below w.heap.size w w' := by
  obtain ⟨x, y⟩ := p
  dsimp only
  have hx := u64_bd x
  have hy := u64_bd y
  have hk := u64_bd k
  have HE : Hid (rotl8 ((x ^^^ k) - rotr3 (x ^^^ y)) = (bck k (x, y)).1 ∧ rotr3 (x ^^^ y) = (bck k (x, y)).2) := ⟨rfl, rfl⟩
  have hy3 := u64_bd (rotr3 (x ^^^ y))
  go_enter Try.func147, Try.ntmps147
  go_wp2_with fail
  simp only [u64_xor]
  go_at_call 144
  refine (RotateLeft64_r3 (x ^^^ y) _).mono ?_
  rintro e w1 ⟨rfl, rfl⟩
  go_wp2_with fail
  simp only [u64_xor, u64_sub]
  go_at_call 144
  refine (RotateLeft64_l8 _ _).mono ?_
  rintro e w1 ⟨rfl, rfl⟩
  rw [HE.out.1, HE.out.2]
  go_wp2_with fail
  exact bodyPost_ret (v := .agg #[.int .u64 ((bck k (x, y)).1.toNat : Int), .int .u64 ((bck k (x, y)).2.toNat : Int)]) (by simp [results, Try.results147, go_sem]) rfl
    ⟨rfl, alloc2_bel w _ _⟩
end Go.Proofs.Ytinpiodfpnbllaa
