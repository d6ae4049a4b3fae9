/-
  Words of 64 bits: how the walk spells their operations; rotations, as the program and the reference make them.
-/
import Derived.Test.YtinpiodfpnbllaaMemR
import Derived.Test.YtinpiodfpnbllaaPlainSpeck
import Derived.Laws.BitsAllLaws
import Derived.Laws.BitsLemmas
namespace Go.Proofs.Ytinpiodfpnbllaa
open Go.RowKit
set_option linter.unusedVariables false

theorem wrap_u64_nat (n : Nat) : IntKind.u64.wrap (n : Int) = ((n % 18446744073709551616 : Nat) : Int) := by
  rw [IntKind.wrap_u64]; omega
theorem u64_bd (x : UInt64) : (x.toNat : Int) ≤ 18446744073709551615 := by have := x.toNat_lt; omega
theorem u64_wrap (x : UInt64) : IntKind.u64.wrap (x.toNat : Int) = (x.toNat : Int) := by
  rw [wrap_u64_nat]; have := x.toNat_lt; omega
theorem u64_add (a b : UInt64) : IntKind.u64.wrap ((a.toNat : Int) + (b.toNat : Int)) = ((a + b).toNat : Int) := by
  rw [show (a.toNat : Int) + b.toNat = ((a.toNat + b.toNat : Nat) : Int) from by omega, wrap_u64_nat, UInt64.toNat_add]
theorem u64_addm (a b : UInt64) : ((a.toNat : Int) + (b.toNat : Int)) % 18446744073709551616 = ((a + b).toNat : Int) := by
  rw [UInt64.toNat_add]; omega
theorem u64_sub (a b : UInt64) : IntKind.u64.wrap ((a.toNat : Int) - (b.toNat : Int)) = ((a - b).toNat : Int) := by
  have h1 := a.toNat_lt
  have h2 := b.toNat_lt
  rw [IntKind.wrap_u64, UInt64.toNat_sub]
  omega
theorem u64_mul256 (a : UInt64) : IntKind.u64.wrap (256 * (a.toNat : Int)) = ((256 * a).toNat : Int) := by
  rw [show 256 * (a.toNat : Int) = ((256 * a.toNat : Nat) : Int) from by omega, wrap_u64_nat, UInt64.toNat_mul]
  rfl
theorem u64_or (a b : UInt64) : bits .or .u64 (a.toNat : Int) (b.toNat : Int) = ((a ||| b).toNat : Int) := by
  rw [u64_or_nat _ _ a.toNat_lt b.toNat_lt, UInt64.toNat_or]
theorem u64_xor (a b : UInt64) : bits .xor .u64 (a.toNat : Int) (b.toNat : Int) = ((a ^^^ b).toNat : Int) := by
  rw [u64_xor_nat _ _ a.toNat_lt b.toNat_lt, UInt64.toNat_xor]
theorem u64_shl (x : UInt64) (k : Nat) (hk : k < 64) : IntKind.u64.wrap ((x.toNat : Int) * (2 ^ k : Nat)) = ((x <<< UInt64.ofNat k).toNat : Int) := by
  rw [show (x.toNat : Int) * (2 ^ k : Nat) = ((x.toNat * 2 ^ k : Nat) : Int) from (Int.natCast_mul _ _).symm, wrap_u64_nat, UInt64.toNat_shiftLeft, Nat.shiftLeft_eq]
  simp [UInt64.toNat_ofNat', Nat.mod_eq_of_lt (show k < 18446744073709551616 by omega), Nat.mod_eq_of_lt hk]
theorem u64_shr (x : UInt64) (k : Nat) (hk : k < 64) : (x.toNat : Int) / (2 ^ k : Nat) = ((x >>> UInt64.ofNat k).toNat : Int) := by
  rw [toNat_shr x k hk]; exact (Int.natCast_ediv _ _).symm
theorem u8_wrap64 (x : UInt64) : IntKind.u8.wrap (x.toNat : Int) = ((x.toUInt8).toNat : Int) := by
  rw [IntKind.wrap_u8, UInt64.toNat_toUInt8]; omega
theorem u64_of_u8 (c : UInt8) : IntKind.u64.wrap (c.toNat : Int) = ((c.toUInt64).toNat : Int) := by
  rw [wrap_u64_nat, UInt8.toNat_toUInt64]; have := c.toNat_lt; omega
theorem u64_shl8 (x : UInt64) : IntKind.u64.wrap ((x.toNat : Int) * 256) = ((x <<< 8).toNat : Int) := u64_shl x 8 (by omega)
theorem u64_shl56 (x : UInt64) : IntKind.u64.wrap ((x.toNat : Int) * 72057594037927936) = ((x <<< 56).toNat : Int) := u64_shl x 56 (by omega)
theorem u64_shl3 (x : UInt64) : IntKind.u64.wrap ((x.toNat : Int) * 8) = ((x <<< 3).toNat : Int) := u64_shl x 3 (by omega)
theorem u64_shl61 (x : UInt64) : IntKind.u64.wrap ((x.toNat : Int) * 2305843009213693952) = ((x <<< 61).toNat : Int) := u64_shl x 61 (by omega)
theorem u64_shr8 (x : UInt64) : (x.toNat : Int) / (256 : Int) = ((x >>> 8).toNat : Int) := u64_shr x 8 (by omega)
theorem u64_shr56 (x : UInt64) : (x.toNat : Int) / (72057594037927936 : Int) = ((x >>> 56).toNat : Int) := u64_shr x 56 (by omega)
theorem u64_shr3 (x : UInt64) : (x.toNat : Int) / (8 : Int) = ((x >>> 3).toNat : Int) := u64_shr x 3 (by omega)
theorem u64_shr61 (x : UInt64) : (x.toNat : Int) / (2305843009213693952 : Int) = ((x >>> 61).toNat : Int) := u64_shr x 61 (by omega)

theorem ret_u64 {a b : Int} (h : a = b) : Ending.returned (.int .u64 a) = .returned (.int .u64 b) := by rw [h]

/-- A rotation by k bits to the left, as both make it. -/
theorem rot_r8 (x : UInt64) : bits .or .u64 (IntKind.u64.wrap ((x.toNat : Int) * 72057594037927936)) ((x.toNat : Int) / 256) = ((rotr8 x).toNat : Int) := by
  rw [u64_shl56, u64_shr8, u64_or, rotr8, UInt64.or_comm]
theorem rot_l3 (x : UInt64) : bits .or .u64 (IntKind.u64.wrap ((x.toNat : Int) * 8)) ((x.toNat : Int) / 2305843009213693952) = ((rotl3 x).toNat : Int) := by
  rw [u64_shl3, u64_shr61, u64_or, rotl3]
theorem rot_l8 (x : UInt64) : bits .or .u64 (IntKind.u64.wrap ((x.toNat : Int) * 256)) ((x.toNat : Int) / 72057594037927936) = ((rotl8 x).toNat : Int) := by
  rw [u64_shl8, u64_shr56, u64_or, rotl8]
theorem rot_r3 (x : UInt64) : bits .or .u64 (IntKind.u64.wrap ((x.toNat : Int) * 2305843009213693952)) ((x.toNat : Int) / 8) = ((rotr3 x).toNat : Int) := by
  rw [u64_shl61, u64_shr3, u64_or, rotr3, UInt64.or_comm]
theorem rot_r8' (x : UInt64) : bits .or .u64 ((x.toNat : Int) / 256) (IntKind.u64.wrap ((x.toNat : Int) * 72057594037927936)) = ((rotr8 x).toNat : Int) := by
  rw [u64_shl56, u64_shr8, u64_or, rotr8]
theorem rot_l3' (x : UInt64) : bits .or .u64 ((x.toNat : Int) / 2305843009213693952) (IntKind.u64.wrap ((x.toNat : Int) * 8)) = ((rotl3 x).toNat : Int) := by
  rw [u64_shl3, u64_shr61, u64_or, rotl3, UInt64.or_comm]
theorem rot_l8' (x : UInt64) : bits .or .u64 ((x.toNat : Int) / 72057594037927936) (IntKind.u64.wrap ((x.toNat : Int) * 256)) = ((rotl8 x).toNat : Int) := by
  rw [u64_shl8, u64_shr56, u64_or, rotl8, UInt64.or_comm]
theorem rot_r3' (x : UInt64) : bits .or .u64 ((x.toNat : Int) / 8) (IntKind.u64.wrap ((x.toNat : Int) * 2305843009213693952)) = ((rotr3 x).toNat : Int) := by
  rw [u64_shl61, u64_shr3, u64_or, rotr3]

set_option maxHeartbeats 400000 in
theorem RotateLeft64_r8 (x : UInt64) (w : World) : Calls Try.prog 144 #[.int .u64 (x.toNat : Int), .int .i64 (-8)] w fun e w' => e = .returned (.int .u64 ((rotr8 x).toNat : Int)) ∧ w = w' := by
  have hx := u64_bd x
  have hk : bits BinOp.and IntKind.u64 (IntKind.u64.wrap (-8)) 63 = 56 := by kernel_rfl
  go_enter Try.func144, Try.ntmps144
  go_wp2_with fail
  go_ret
  exact ⟨ret_u64 (rot_r8 x), rfl⟩
set_option maxHeartbeats 400000 in
theorem RotateLeft64_l3 (x : UInt64) (w : World) : Calls Try.prog 144 #[.int .u64 (x.toNat : Int), .int .i64 3] w fun e w' => e = .returned (.int .u64 ((rotl3 x).toNat : Int)) ∧ w = w' := by
  have hx := u64_bd x
  have hk : bits BinOp.and IntKind.u64 3 63 = 3 := by kernel_rfl
  go_enter Try.func144, Try.ntmps144
  go_wp2_with fail
  go_ret
  exact ⟨ret_u64 (rot_l3 x), rfl⟩
set_option maxHeartbeats 400000 in
theorem RotateLeft64_l8 (x : UInt64) (w : World) : Calls Try.prog 144 #[.int .u64 (x.toNat : Int), .int .i64 8] w fun e w' => e = .returned (.int .u64 ((rotl8 x).toNat : Int)) ∧ w = w' := by
  have hx := u64_bd x
  have hk : bits BinOp.and IntKind.u64 8 63 = 8 := by kernel_rfl
  go_enter Try.func144, Try.ntmps144
  go_wp2_with fail
  go_ret
  exact ⟨ret_u64 (rot_l8 x), rfl⟩
set_option maxHeartbeats 400000 in
theorem RotateLeft64_r3 (x : UInt64) (w : World) : Calls Try.prog 144 #[.int .u64 (x.toNat : Int), .int .i64 (-3)] w fun e w' => e = .returned (.int .u64 ((rotr3 x).toNat : Int)) ∧ w = w' := by
  have hx := u64_bd x
  have hk : bits BinOp.and IntKind.u64 (IntKind.u64.wrap (-3)) 63 = 61 := by kernel_rfl
  go_enter Try.func144, Try.ntmps144
  go_wp2_with fail
  go_ret
  exact ⟨ret_u64 (rot_r3 x), rfl⟩

set_option maxHeartbeats 400000 in
theorem refRotr_8 (x : UInt64) (w : World) : Calls Try.prog 117 #[.int .u64 (x.toNat : Int), .int .i64 8] w fun e w' => e = .returned (.int .u64 ((rotr8 x).toNat : Int)) ∧ ∃ n, w' = w.drewN n := by
  have hx := u64_bd x
  go_enter Try.func117, Try.ntmps117
  go_wp2_with fail
  go_quiet (fail)
  go_wp2_with fail
  go_ret
  exact ⟨ret_u64 (rot_r8' x), _, rfl⟩
set_option maxHeartbeats 400000 in
theorem refRotr_61 (x : UInt64) (w : World) : Calls Try.prog 117 #[.int .u64 (x.toNat : Int), .int .i64 61] w fun e w' => e = .returned (.int .u64 ((rotl3 x).toNat : Int)) ∧ ∃ n, w' = w.drewN n := by
  have hx := u64_bd x
  go_enter Try.func117, Try.ntmps117
  go_wp2_with fail
  go_quiet (fail)
  go_wp2_with fail
  go_ret
  exact ⟨ret_u64 (rot_l3' x), _, rfl⟩
set_option maxHeartbeats 400000 in
theorem refRotl_3 (x : UInt64) (w : World) : Calls Try.prog 118 #[.int .u64 (x.toNat : Int), .int .i64 3] w fun e w' => e = .returned (.int .u64 ((rotl3 x).toNat : Int)) ∧ ∃ n, w' = w.drewN n := by
  go_enter Try.func118, Try.ntmps118
  go_wp2_with (go_at_call 117; refine (refRotr_61 x _).mono ?_; rintro e w1 ⟨rfl, n1, rfl⟩)
  go_ret
  exact ⟨rfl, _, rfl⟩
set_option maxHeartbeats 400000 in
theorem refRotr_3 (x : UInt64) (w : World) : Calls Try.prog 117 #[.int .u64 (x.toNat : Int), .int .i64 3] w fun e w' => e = .returned (.int .u64 ((rotr3 x).toNat : Int)) ∧ ∃ n, w' = w.drewN n := by
  have hx := u64_bd x
  go_enter Try.func117, Try.ntmps117
  go_wp2_with fail
  go_quiet (fail)
  go_wp2_with fail
  go_ret
  exact ⟨ret_u64 (rot_r3' x), _, rfl⟩
set_option maxHeartbeats 400000 in
theorem refRotr_56 (x : UInt64) (w : World) : Calls Try.prog 117 #[.int .u64 (x.toNat : Int), .int .i64 56] w fun e w' => e = .returned (.int .u64 ((rotl8 x).toNat : Int)) ∧ ∃ n, w' = w.drewN n := by
  have hx := u64_bd x
  go_enter Try.func117, Try.ntmps117
  go_wp2_with fail
  go_quiet (fail)
  go_wp2_with fail
  go_ret
  exact ⟨ret_u64 (rot_l8' x), _, rfl⟩
set_option maxHeartbeats 400000 in
theorem refRotl_8 (x : UInt64) (w : World) : Calls Try.prog 118 #[.int .u64 (x.toNat : Int), .int .i64 8] w fun e w' => e = .returned (.int .u64 ((rotl8 x).toNat : Int)) ∧ ∃ n, w' = w.drewN n := by
  go_enter Try.func118, Try.ntmps118
  go_wp2_with (go_at_call 117; refine (refRotr_56 x _).mono ?_; rintro e w1 ⟨rfl, n1, rfl⟩)
  go_ret
  exact ⟨rfl, _, rfl⟩
end Go.Proofs.Ytinpiodfpnbllaa
