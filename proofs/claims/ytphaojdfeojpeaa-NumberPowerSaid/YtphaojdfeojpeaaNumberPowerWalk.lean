/-
  The walk of the law NumberPower.
-/
import Derived.Test.YtphaojdfeojpeaaOutAid
namespace Go.Proofs.Ytphaojdfeojpeaa
open Go.RowKit
set_option linter.unusedVariables false

theorem powm_add (b i j m : Nat) : powm b (i + j) m = powm b i m * powm b j m % m := by unfold powm; rw [Nat.pow_add, Nat.mul_mod]
theorem powm_next (b i m : Nat) : powm b (i + 1) m = powm b i m * (b % m) % m := by unfold powm; rw [Nat.pow_succ, Nat.mul_mod]
theorem powm_lt (b i m : Nat) (h : 1 ≤ m) : powm b i m < m := Nat.mod_lt _ h
set_option maxHeartbeats 4000000 in
set_option maxRecDepth 100000 in
theorem numberPower_walk (b i j m : Nat) (hb : b < 18446744073709551616) (hi : i < 18446744073709551616) (hj : j < 18446744073709551616) (hm : m < 18446744073709551616) (w : World) :
    Calls Try.prog 10 #[.int .u64 b, .int .u64 i, .int .u64 j, .int .u64 m] w fun e w' => e = .returned (.bool true) ∧ Below w.heap.size w w' := by
  have Hb := Lib.hid hb
  have Hi := Lib.hid hi
  have Hj := Lib.hid hj
  have Hm := Lib.hid hm
  have k : Below w.heap.size w w := Below.refl _ _
  by_cases h : m < 1 ∨ 4294967296 ≤ m
  · have H := Lib.hid h
    rcases h with h | h
    · have t1 : (m : Int) < 1 := by omega
      clear hb hi hj hm h
      go_enter Try.func10, Try.ntmps10
      go_wp2_with fail
      refine (alive_any _).mono ?_
      rintro e w1 ⟨rfl, b1⟩
      go_wp2_with fail
      refine (PowMod_no _ _ _ H.out _).mono ?_
      rintro e w2 ⟨rfl, rfl⟩
      go_wp2_with fail
      go_ret
      exact ⟨rfl, b1⟩
    · have t1 : decide ((m : Int) < 1) = false := by simp; omega
      have t2 : decide ((4294967296 : Int) ≤ m) = true := by simp; omega
      clear hb hi hj hm h
      go_enter Try.func10, Try.ntmps10
      go_wp2_with fail
      refine (alive_any _).mono ?_
      rintro e w1 ⟨rfl, b1⟩
      go_wp2_with fail
      refine (PowMod_no _ _ _ H.out _).mono ?_
      rintro e w2 ⟨rfl, rfl⟩
      go_wp2_with fail
      go_ret
      exact ⟨rfl, b1⟩
  · have h1 : 1 ≤ m := by omega
    have H2 : Hid (m < 4294967296) := by unfold Hid; omega
    have t1 : decide ((m : Int) < 1) = false := by simp; omega
    have t2 : decide ((4294967296 : Int) ≤ m) = false := by simp; omega
    have hx := powm_lt b i m h1
    have hy := powm_lt b j m h1
    have HX := Lib.hid hx
    have HY := Lib.hid hy
    by_cases h62 : 4611686018427387904 < i ∨ 4611686018427387904 < j
    · rcases h62 with h6 | h6
      · have t3 : decide ((4611686018427387904 : Int) < i) = true := by simp; omega
        clear hb hi hj hm h h6 hx hy
        go_enter Try.func10, Try.ntmps10
        go_wp2_with fail
        refine (alive_any _).mono ?_
        rintro e w1 ⟨rfl, b1⟩
        go_wp2_with fail
        refine (PowMod_yes _ _ _ Hb.out Hi.out h1 H2.out _).mono ?_
        rintro e w2 ⟨rfl, rfl⟩
        go_wp2_with fail
        go_ret
        exact ⟨rfl, b1⟩
      · rcases Nat.lt_or_ge 4611686018427387904 i with h5 | h5
        · have t3 : decide ((4611686018427387904 : Int) < i) = true := by simp; omega
          clear hb hi hj hm h h5 h6 hx hy
          go_enter Try.func10, Try.ntmps10
          go_wp2_with fail
          refine (alive_any _).mono ?_
          rintro e w1 ⟨rfl, b1⟩
          go_wp2_with fail
          refine (PowMod_yes _ _ _ Hb.out Hi.out h1 H2.out _).mono ?_
          rintro e w2 ⟨rfl, rfl⟩
          go_wp2_with fail
          go_ret
          exact ⟨rfl, b1⟩
        · have t3 : decide ((4611686018427387904 : Int) < i) = false := by simp; omega
          have t4 : decide ((4611686018427387904 : Int) < j) = true := by simp; omega
          clear hb hi hj hm h h5 h6 hx hy
          go_enter Try.func10, Try.ntmps10
          go_wp2_with fail
          refine (alive_any _).mono ?_
          rintro e w1 ⟨rfl, b1⟩
          go_wp2_with fail
          refine (PowMod_yes _ _ _ Hb.out Hi.out h1 H2.out _).mono ?_
          rintro e w2 ⟨rfl, rfl⟩
          go_wp2_with fail
          go_ret
          exact ⟨rfl, b1⟩
    · have t3 : decide ((4611686018427387904 : Int) < i) = false := by simp; omega
      have t4 : decide ((4611686018427387904 : Int) < j) = false := by simp; omega
      have hij : (i : Int) + j ≤ 9223372036854775808 := by omega
      have hi1 : (i : Int) + 1 ≤ 9223372036854775808 := by omega
      have eij : (i : Int) + j = ((i + j : Nat) : Int) := by omega
      have ei1 : (i : Int) + 1 = ((i + 1 : Nat) : Int) := by omega
      have EIJ := Lib.hid eij
      have EI1 := Lib.hid ei1
      have LIJ : Hid (i + j < 18446744073709551616) := by unfold Hid; omega
      have LI1 : Hid (i + 1 < 18446744073709551616) := by unfold Hid; omega
      have PA := Lib.hid (powm_add b i j m)
      have PN := Lib.hid (powm_next b i m)
      have PZ : Hid (powm b 0 m = 1 % m) := powm_zero b m
      have HBM : Hid (b % m < m) := Nat.mod_lt _ h1
      clear hb hi hj hm h h62 eij ei1 hx hy
      go_enter Try.func10, Try.ntmps10
      go_wp2_with fail
      refine (alive_any _).mono ?_
      rintro e w1 ⟨rfl, b1⟩
      go_wp2_with fail
      refine (PowMod_yes _ _ _ Hb.out Hi.out h1 H2.out _).mono ?_
      rintro e w2 ⟨rfl, rfl⟩
      go_wp2_with fail
      refine (PowMod_yes _ _ _ Hb.out Hj.out h1 H2.out _).mono ?_
      rintro e w2 ⟨rfl, rfl⟩
      go_wp2_with fail
      rw [EIJ.out]
      refine (PowMod_yes b (i + j) m Hb.out LIJ.out h1 H2.out _).mono ?_
      rintro e w2 ⟨rfl, rfl⟩
      go_wp2_with fail
      rw [EI1.out]
      refine (PowMod_yes b (i + 1) m Hb.out LI1.out h1 H2.out _).mono ?_
      rintro e w2 ⟨rfl, rfl⟩
      go_wp2_with fail
      refine (PowMod_yes b 0 m Hb.out (by omega) h1 H2.out _).mono ?_
      rintro e w2 ⟨rfl, rfl⟩
      rw [PA.out, PN.out, PZ.out]
      have lx : (powm b i m : Int) < m := by have := HX.out; omega
      have ly : (powm b j m : Int) < m := by have := HY.out; omega
      obtain ⟨p1, p2⟩ := mul_in64 HX.out HY.out H2.out
      obtain ⟨p3, p4⟩ := mul_in64 HX.out HBM.out H2.out
      have ebm : (b : Int) % m = ((b % m : Nat) : Int) := by rw [Int.natCast_emod]
      have e1m : (1 : Int) % m = ((1 % m : Nat) : Int) := by rw [Int.natCast_emod]; rfl
      have q1 : (powm b i m : Int) * (powm b j m : Int) % m = ((powm b i m * powm b j m % m : Nat) : Int) := mulmod_cast _ _ _
      have q2 : (powm b i m : Int) * ((b % m : Nat) : Int) % m = ((powm b i m * (b % m) % m : Nat) : Int) := mulmod_cast _ _ _
      generalize powm b i m = x at *
      generalize powm b j m = y at *
      generalize b % m = bm at *
      generalize x * y % m = r1 at *
      generalize x * bm % m = r2 at *
      generalize 1 % m = r3 at *
      clear PA PN PZ HX HY HBM
      go_wp2_with fail
      go_ret
      exact ⟨by simp [*], b1⟩
end Go.Proofs.Ytphaojdfeojpeaa
