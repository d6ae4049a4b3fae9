/-
  bits.Sub32, Add32, Div32, LeadingZeros32.
-/
import Derived.Test.YtphaojdfeojpeaaNatWalks2
namespace Go.Proofs.Ytphaojdfeojpeaa
open Go.RowKit
set_option linter.unusedVariables false

theorem top_bit {n : Nat} (h : n < 4294967296) : n.testBit 31 = decide (2147483648 ≤ n) := by
  rw [Nat.testBit_eq_decide_div_mod_eq]
  have e : (2 : Nat) ^ 31 = 2147483648 := by decide
  rw [e]
  apply decide_eq_decide.2
  omega
theorem div_top {n : Nat} (h : n < 4294967296) : n / 2147483648 = (n.testBit 31).toNat := by
  rw [top_bit h]
  by_cases h2 : 2147483648 ≤ n
  · simp [h2]; omega
  · simp [h2]; omega
theorem lt32_and {a b : Nat} (h : b < 4294967296) : a &&& b < 4294967296 := Nat.lt_of_le_of_lt Nat.and_le_right h
theorem lt32_or {a b : Nat} (ha : a < 4294967296) (hb : b < 4294967296) : a ||| b < 4294967296 := Nat.or_lt_two_pow (n := 32) ha hb
theorem lt32_xor {a b : Nat} (ha : a < 4294967296) (hb : b < 4294967296) : a ^^^ b < 4294967296 := Nat.xor_lt_two_pow (n := 32) ha hb

/-- The borrow, as bits.Sub32 computes it. -/
theorem borrow_is {x y b d c : Nat} (hx : x < 4294967296) (hy : y < 4294967296) (hd : d < 4294967296) (hb : b ≤ 1) (hc : c ≤ 1) (h : d + y + b = x + 4294967296 * c) :
    (((4294967295 ^^^ x) &&& y) ||| ((4294967295 ^^^ (x ^^^ y)) &&& d)) / 2147483648 = c := by
  rw [div_top (lt32_or (lt32_and hy) (lt32_and hd))]
  simp only [Nat.testBit_or, Nat.testBit_and, Nat.testBit_xor, top_bit hx, top_bit hy, top_bit hd, show (4294967295 : Nat).testBit 31 = true from by decide]
  by_cases h1 : 2147483648 ≤ x <;> by_cases h2 : 2147483648 ≤ y <;> by_cases h3 : 2147483648 ≤ d <;> simp [h1, h2, h3] <;> omega

set_option maxHeartbeats 1000000 in
theorem Sub32_any (x y b : Nat) (hx : x < 4294967296) (hy : y < 4294967296) (hb : b ≤ 1) :
    ∃ d c : Nat, d < 4294967296 ∧ c ≤ 1 ∧ d + y + b = x + 4294967296 * c ∧ ∀ (X Y B : Int) (w : World), X = x → Y = y → B = b → Calls Try.prog 115 #[.int .u32 X, .int .u32 Y, .int .u32 B] w fun e w' => e = .returned (.tuple #[.int .u32 d, .int .u32 c]) ∧ w = w' := by
  obtain ⟨d, c, hd, hc, h⟩ : ∃ d c : Nat, d < 4294967296 ∧ c ≤ 1 ∧ d + y + b = x + 4294967296 * c := by
    by_cases h : y + b ≤ x
    · exact ⟨x - y - b, 0, by omega, by omega, by omega⟩
    · exact ⟨x + 4294967296 - y - b, 1, by omega, by omega, by omega⟩
  refine ⟨d, c, hd, hc, h, ?_⟩
  intro X Y B w eX eY eB
  subst eX eY eB
  have HB := Lib.hid (borrow_is hx hy hd hb hc h)
  have HD : Hid ((((x : Int) - y) % 4294967296 - b) % 4294967296 = d) := by unfold Hid; omega
  have HD2 : Hid (((x : Int) - y - b) % 4294967296 = d) := by unfold Hid; omega
  have hsg : IntKind.u32.signed = false := rfl
  have hmx : IntKind.u32.max = 4294967295 := rfl
  have HX := Lib.hid hx
  have HY := Lib.hid hy
  have HDD := Lib.hid hd
  clear hx hy hd h
  go_enter Try.func115, Try.ntmps115
  go_wp2
  go_ret2
  refine ⟨tuple_int2 HD.out ?_, rfl⟩
  have e1 : (4294967295 : Int) = ((4294967295 : Nat) : Int) := rfl
  rw [HD2.out, e1, u32_xor_nat 4294967295 x (by omega) HX.out, u32_xor_nat x y HX.out HY.out, u32_xor_nat 4294967295 _ (by omega) (lt32_xor HX.out HY.out), u32_and_nat _ y (lt32_xor (by omega) HX.out) HY.out,
    u32_and_nat _ d (lt32_xor (by omega) (lt32_xor HX.out HY.out)) HDD.out, u32_or_nat _ _ (lt32_and HY.out) (lt32_and HDD.out)]
  have := HB.out
  omega
set_option maxHeartbeats 1000000 in
theorem Add32_any (x y b : Nat) (w : World) (hx : x < 4294967296) (hy : y < 4294967296) (hb : b ≤ 1) {X Y B : Int} (eX : X = x) (eY : Y = y) (eB : B = b) :
    Calls Try.prog 120 #[.int .u32 X, .int .u32 Y, .int .u32 B] w fun e w' => e = .returned (.tuple #[.int .u32 ((x + y + b) % 4294967296 : Nat), .int .u32 ((x + y + b) / 4294967296 : Nat)]) ∧ w = w' := by
  subst eX eY eB
  have h1 : (x : Int) ≤ 4294967295 := by omega
  have h2 : (y : Int) ≤ 4294967295 := by omega
  have h3 : (b : Int) ≤ 1 := by omega
  have HX := Lib.hid hx
  have HY := Lib.hid hy
  clear hx hy
  go_enter Try.func120, Try.ntmps120
  go_wp2
  go_ret2
  exact ⟨tuple_int2 (by have := HX.out; omega) (by have := HX.out; have := HY.out; omega), rfl⟩
end Go.Proofs.Ytphaojdfeojpeaa
