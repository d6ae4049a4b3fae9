/-
  What the functions on powers and inverses compute, by walking their text.
-/
import Derived.Test.YtphaojdfeojpeaaRows
import Derived.WalkKit
import Derived.WalkSpells
import Derived.WalkLawsBesides
import Derived.Lib.Hide
import Derived.Deep.QuietTactic
import Derived.BigQuiet
import Derived.Test.YtphaojdfeojpeaaPlainMod
namespace Go.Proofs.Ytphaojdfeojpeaa
open Go.RowKit
set_option linter.unusedVariables false

/-- The world as it was but for draws. -/
def Qt (w w' : World) : Prop := ∃ n, w' = w.drewN n
theorem Qt.refl (w : World) : Qt w w := ⟨0, rfl⟩
theorem Qt.drewN {w w' : World} (h : Qt w w') (k : Nat) : Qt w (w'.drewN k) := by
  obtain ⟨n, rfl⟩ := h; exact ⟨n + k, by simp⟩
theorem Qt.drew {w w' : World} (h : Qt w w') : Qt w w'.drew := h.drewN 1
theorem Qt.trans {a b c : World} (h : Qt a b) (k : Qt b c) : Qt a c := by
  obtain ⟨n, rfl⟩ := h; obtain ⟨m, rfl⟩ := k; exact ⟨n + m, by simp⟩

/-- May it be a modulus? -/
def modB (m : Nat) : Bool := decide (1 ≤ m ∧ m < 4294967296)
theorem modB_true {m : Nat} (h : 1 ≤ m) (h2 : m < 4294967296) : modB m = true := by simp [modB]; omega
theorem modB_false {m : Nat} (h : m < 1 ∨ 4294967296 ≤ m) : modB m = false := by simp [modB]; omega

set_option maxHeartbeats 400000 in
theorem power_any (b n m : Nat) (hb : b < 18446744073709551616) (hn : n < 18446744073709551616) (hm : 1 ≤ m) (hm2 : m < 4294967296) (w : World) :
    Calls Try.prog 69 #[.int .u64 b, .int .u64 n, .int .u64 m] w fun e w' => e = .returned (.int .u64 (powm b n m)) ∧ w = w' := by
  have Hb := Lib.hid hb
  have Hn := Lib.hid hn
  clear hb hn
  go_enter Try.func69, Try.ntmps69
  go_wp2
  go_loop [0, 1, 7] (fun vb vn vo => ∃ x y o : Nat, x < m ∧ Hid (y < 18446744073709551616) ∧ o < m ∧ Hid (pinv o x y m (powm b n m)) ∧ vb = .int .u64 x ∧ vn = .int .u64 y ∧ vo = .int .u64 o) (fun _ vn _ => (intOf vn).toNat)
  case atStart => exact ⟨b % m, n, 1 % m, Nat.mod_lt _ hm, Hn, Nat.mod_lt _ hm, pinv_start b n m, by go_num, by go_num, by go_num⟩
  case round =>
    obtain ⟨x, y, o, hx, Hy, ho, Hi, rfl, rfl, rfl⟩ := hrel
    obtain ⟨a1, a2⟩ := mul_in64 ho hx hm2
    obtain ⟨a3, a4⟩ := mul_in64 hx hx hm2
    by_cases hodd : y % 2 = 1
    · have hbit : (bits BinOp.and IntKind.u64 (y : Int) 1 == 1) = true := by
        have := Hy.out
        rw [and_one_u64 _ (by omega) (by omega)]
        simp; omega
      have Ho := Lib.hid hodd
      clear hodd
      go_wp2
      · go_round
        case rel =>
          have := Hy.out
          exact ⟨x * x % m, y / 2, o * x % m, Nat.mod_lt _ hm, by unfold Hid; omega, Nat.mod_lt _ hm, pinv_odd Hi.out Ho.out, int_cong (mulmod_cast _ _ _), int_cong (div2_cast _), int_cong (mulmod_cast _ _ _)⟩
        case measure => simp [intOf]; omega
      · have h0 : y = 0 := by omega
        have := Ho.out
        omega
    · have hbit : (bits BinOp.and IntKind.u64 (y : Int) 1 == 1) = false := by
        have := Hy.out
        rw [and_one_u64 _ (by omega) (by omega)]
        simp; omega
      have Ho : Hid (y % 2 = 0) := by unfold Hid; omega
      clear hodd
      go_wp2
      · go_round
        case rel =>
          have := Hy.out
          exact ⟨x * x % m, y / 2, o, Nat.mod_lt _ hm, by unfold Hid; omega, ho, pinv_even Hi.out Ho.out, int_cong (mulmod_cast _ _ _), int_cong (div2_cast _), rfl⟩
        case measure => simp [intOf]; omega
      · have h0 : y = 0 := by omega
        go_ret
        have := Hi.out
        rw [h0] at this
        exact ⟨ret_int (by rw [pinv_end this ho]), rfl⟩

set_option maxHeartbeats 400000 in
theorem refPower_any (b n m : Nat) (hb : b < 18446744073709551616) (hn : n < 18446744073709551616) (hm : 1 ≤ m) (hm2 : m < 4294967296) (w : World) :
    Calls Try.prog 70 #[.int .u64 b, .int .u64 n, .int .u64 m] w fun e w' => e = .returned (.int .u64 (powm b n m)) ∧ w = w' := by
  have Hb := Lib.hid hb
  have Hn := Lib.hid hn
  clear hb hn
  go_enter Try.func70, Try.ntmps70
  go_wp2
  go_loop [1, 7, 8] (fun vn vo vb => ∃ x y o : Nat, x < m ∧ Hid (y < 18446744073709551616) ∧ o < m ∧ Hid (pinv o x y m (powm b n m)) ∧ vb = .int .u64 x ∧ vn = .int .u64 y ∧ vo = .int .u64 o) (fun vn _ _ => (intOf vn).toNat)
  case atStart => exact ⟨b % m, n, 1 % m, Nat.mod_lt _ hm, Hn, Nat.mod_lt _ hm, pinv_start b n m, by go_num, by go_num, by go_num⟩
  case round =>
    obtain ⟨x, y, o, hx, Hy, ho, Hi, rfl, rfl, rfl⟩ := hrel
    obtain ⟨a1, a2⟩ := mul_in64 ho hx hm2
    obtain ⟨a3, a4⟩ := mul_in64 hx hx hm2
    have a5 : (y : Int) ≤ 18446744073709551615 := by have := Hy.out; omega
    go_wp2
    · have hodd : (y : Int) % 2 = 1 := by simpa using (by assumption : ((y : Int) % 2 == 1) = true)
      go_round
      case rel =>
        have := Hy.out
        exact ⟨x * x % m, y / 2, o * x % m, Nat.mod_lt _ hm, by unfold Hid; omega, Nat.mod_lt _ hm, pinv_odd Hi.out (by omega), int_cong (mulmod_cast _ _ _), int_cong (div2_cast _), int_cong (mulmod_cast _ _ _)⟩
      case measure => simp [intOf]; omega
    · have hev : ¬ (y : Int) % 2 = 1 := by simpa using (by assumption : ((y : Int) % 2 == 1) = false)
      go_round
      case rel =>
        have := Hy.out
        exact ⟨x * x % m, y / 2, o, Nat.mod_lt _ hm, by unfold Hid; omega, ho, pinv_even Hi.out (by omega), int_cong (mulmod_cast _ _ _), int_cong (div2_cast _), rfl⟩
      case measure => simp [intOf]; omega
    · have h0 : y = 0 := by omega
      go_ret
      have := Hi.out
      rw [h0] at this
      exact ⟨ret_int (by rw [pinv_end this ho]), rfl⟩

set_option maxHeartbeats 400000 in
theorem modulus_yes (m : Nat) (h : 1 ≤ m) (h2 : m < 4294967296) (w : World) : Calls Try.prog 68 #[.int .u64 m] w fun e w' => e = .returned (.bool true) ∧ w = w' := by
  have h3 : (m : Int) ≤ 4294967295 := by omega
  clear h2
  go_enter Try.func68, Try.ntmps68
  go_wp2
  go_ret
  exact ⟨ret_bool (by simp; omega), rfl⟩
set_option maxHeartbeats 400000 in
theorem modulus_no (m : Nat) (h : m < 1 ∨ 4294967296 ≤ m) (w : World) : Calls Try.prog 68 #[.int .u64 m] w fun e w' => e = .returned (.bool false) ∧ w = w' := by
  rcases h with h | h
  · obtain rfl : m = 0 := by omega
    go_enter Try.func68, Try.ntmps68
    go_wp2
    go_ret
    exact ⟨rfl, rfl⟩
  · have h1 : 1 ≤ m := by omega
    have h2 : (4294967296 : Int) ≤ m := by omega
    clear h
    go_enter Try.func68, Try.ntmps68
    go_wp2
    go_ret
    exact ⟨ret_bool (by simp; omega), rfl⟩

set_option maxHeartbeats 400000 in
theorem PowMod_no (b n m : Nat) (h : m < 1 ∨ 4294967296 ≤ m) (w : World) : Calls Try.prog 19 #[.int .u64 b, .int .u64 n, .int .u64 m] w fun e w' => e = .returned (.tuple #[.int .u64 0, .int .i64 2]) ∧ w = w' := by
  have H := Lib.hid h
  clear h
  go_enter Try.func19, Try.ntmps19
  go_wp2_with (go_at_call 68; refine (modulus_no _ H.out _).mono ?_; rintro e w' ⟨rfl, rfl⟩)
  go_ret2
  exact ⟨rfl, rfl⟩
set_option maxHeartbeats 400000 in
theorem PowMod_yes (b n m : Nat) (hb : b < 18446744073709551616) (hn : n < 18446744073709551616) (hm : 1 ≤ m) (hm2 : m < 4294967296) (w : World) :
    Calls Try.prog 19 #[.int .u64 b, .int .u64 n, .int .u64 m] w fun e w' => e = .returned (.tuple #[.int .u64 (powm b n m), .int .i64 0]) ∧ w = w' := by
  have Hb := Lib.hid hb
  have Hn := Lib.hid hn
  have Hm := Lib.hid hm2
  have h3 : (m : Int) ≤ 4294967295 := by omega
  clear hb hn hm2
  go_enter Try.func19, Try.ntmps19
  go_wp2_with (first | (go_at_call 68; refine (modulus_yes _ hm Hm.out _).mono ?_; rintro e w' ⟨rfl, rfl⟩) | (go_at_call 69; refine (power_any _ _ _ Hb.out Hn.out hm Hm.out _).mono ?_; rintro e w' ⟨rfl, rfl⟩))
  go_ret2
  exact ⟨rfl, rfl⟩
set_option maxHeartbeats 400000 in
theorem refPowMod_no (b n m : Nat) (h : m < 1 ∨ 4294967296 ≤ m) (w : World) : Calls Try.prog 20 #[.int .u64 b, .int .u64 n, .int .u64 m] w fun e w' => e = .returned (.tuple #[.int .u64 0, .int .i64 2]) ∧ w = w' := by
  rcases h with h | h
  · obtain rfl : m = 0 := by omega
    go_enter Try.func20, Try.ntmps20
    go_wp2
    go_ret2
    exact ⟨rfl, rfl⟩
  · have h1 : 1 ≤ m := by omega
    have h2 : (4294967296 : Int) ≤ m := by omega
    clear h
    go_enter Try.func20, Try.ntmps20
    go_wp2
    go_ret2
    exact ⟨rfl, rfl⟩
set_option maxHeartbeats 400000 in
theorem refPowMod_yes (b n m : Nat) (hb : b < 18446744073709551616) (hn : n < 18446744073709551616) (hm : 1 ≤ m) (hm2 : m < 4294967296) (w : World) :
    Calls Try.prog 20 #[.int .u64 b, .int .u64 n, .int .u64 m] w fun e w' => e = .returned (.tuple #[.int .u64 (powm b n m), .int .i64 0]) ∧ w = w' := by
  have Hb := Lib.hid hb
  have Hn := Lib.hid hn
  have Hm := Lib.hid hm2
  have h3 : (m : Int) ≤ 4294967295 := by omega
  clear hb hn hm2
  go_enter Try.func20, Try.ntmps20
  go_wp2_with (go_at_call 70; refine (refPower_any _ _ _ Hb.out Hn.out hm Hm.out _).mono ?_; rintro e w' ⟨rfl, rfl⟩)
  go_ret2
  exact ⟨rfl, rfl⟩
end Go.Proofs.Ytphaojdfeojpeaa
