/-
  The reference's check of a group, and the law NumberGroups' walk.
-/
import Derived.Test.YtphaojdfeojpeaaPrimeWalks
namespace Go.Proofs.Ytphaojdfeojpeaa
open Go.RowKit
set_option linter.unusedVariables false

theorem primeF_cases (n : Nat) : (1048575 < n ∧ primeF n = false) ∨ (n ≤ 1048575 ∧ primeB n = false ∧ primeF n = false) ∨ (2 ≤ n ∧ n ≤ 1048575 ∧ primeB n = true ∧ primeF n = true) := by
  by_cases h : n ≤ 1048575
  · cases hb : primeB n
    · exact .inr (.inl ⟨h, rfl, by simp [primeF, h, hb]⟩)
    · have hf : primeF n = true := by simp [primeF, h, hb]
      exact .inr (.inr ⟨(primeF_le hf).1, h, rfl, hf⟩)
  · exact .inl ⟨by omega, by simp [primeF, h]⟩

set_option maxHeartbeats 2000000 in
theorem refValidGroup_any (p q g : Nat) (hp : p < 18446744073709551616) (hq : q < 18446744073709551616) (hg : g < 18446744073709551616) (w : World) :
    Calls Try.prog 65 #[.agg #[.int .u64 p, .int .u64 q, .int .u64 g]] w fun e w' => e = .returned (.bool (groupB p q g)) ∧ Below w.heap.size w w' := by
  have Hp := Lib.hid hp
  have Hq := Lib.hid hq
  have Hg := Lib.hid hg
  have hg3 : (g : Int) ≤ 18446744073709551615 := by omega
  clear hp hq hg
  rcases primeF_cases p with ⟨b1, h1⟩ | ⟨b1, c1, h1⟩ | ⟨a1, b1, c1, h1⟩
  · have HE : Hid (groupB p q g = false) := by simp [Hid, groupB, h1]
    have m1 : decide ((1048575 : Int) < p) = true := by simp; omega
    clear b1
    go_enter Try.func65, Try.ntmps65
    go_wp2_with fail
    go_ret
    exact ⟨ret_bool HE.out.symm, (Below.refl _ _).alloc (Nat.le_refl _) _⟩
  · have HE : Hid (groupB p q g = false) := by simp [Hid, groupB, h1]
    have m1 : decide ((1048575 : Int) < p) = false := by simp; omega
    have B1 := Lib.hid b1
    clear b1
    go_enter Try.func65, Try.ntmps65
    go_wp2_with (go_at_call 73; refine (refIsPrime_any _ B1.out _).mono ?_; rintro e w' ⟨rfl, rfl⟩)
    go_ret
    exact ⟨ret_bool HE.out.symm, (Below.refl _ _).alloc (Nat.le_refl _) _⟩
  · have m1 : decide ((1048575 : Int) < p) = false := by simp; omega
    have B1 := Lib.hid b1
    have p2 : (2 : Int) ≤ p := by omega
    have p3 : (p : Int) ≤ 1048575 := by omega
    clear b1 a1
    rcases primeF_cases q with ⟨b2, h2⟩ | ⟨b2, c2, h2⟩ | ⟨a2, b2, c2, h2⟩
    · have HE : Hid (groupB p q g = false) := by simp [Hid, groupB, h2]
      have m2 : decide ((1048575 : Int) < q) = true := by simp; omega
      clear b2
      go_enter Try.func65, Try.ntmps65
      go_wp2_with (go_at_call 73; refine (refIsPrime_any _ B1.out _).mono ?_; rintro e w' ⟨rfl, rfl⟩)
      go_ret
      exact ⟨ret_bool HE.out.symm, (Below.refl _ _).alloc (Nat.le_refl _) _⟩
    · have HE : Hid (groupB p q g = false) := by simp [Hid, groupB, h2]
      have m2 : decide ((1048575 : Int) < q) = false := by simp; omega
      have B2 := Lib.hid b2
      clear b2
      go_enter Try.func65, Try.ntmps65
      go_wp2_with fail
      refine (refIsPrime_any _ B1.out _).mono ?_; rintro e w' ⟨rfl, rfl⟩
      go_wp2_with fail
      refine (refIsPrime_any _ B2.out _).mono ?_; rintro e w' ⟨rfl, rfl⟩
      go_wp2_with fail
      go_ret
      exact ⟨ret_bool HE.out.symm, (Below.refl _ _).alloc (Nat.le_refl _) _⟩
    · have m2 : decide ((1048575 : Int) < q) = false := by simp; omega
      have B2 := Lib.hid b2
      have q2 : (2 : Int) ≤ q := by omega
      have q3 : (q : Int) ≤ 1048575 := by omega
      have m3 : ((p : Int) - 1) % q = (((p - 1) % q : Nat) : Int) := by rw [Int.natCast_emod]; congr 1; omega
      clear b2 a2
      by_cases h3 : (p - 1) % q = 0
      · have m4 : (((p : Int) - 1) % q != 0) = false := by rw [m3]; simp; omega
        have H3 : Hid ((p - 1) % q = 0) := h3
        clear m3
        by_cases h4 : 2 ≤ g
        · by_cases h5 : g < p
          · have m5 : decide ((2 : Int) ≤ g) = true := by simp; omega
            have m6 : decide (g < p) = true := by simpa using h5
            have HE : Hid (groupB p q g = (powm g q p == 1)) := by simp [Hid, groupB, h1, h2, h3, h4, h5]
            clear h3 h4 h5
            go_enter Try.func65, Try.ntmps65
            go_wp2_with fail
            refine (refIsPrime_any _ B1.out _).mono ?_; rintro e w' ⟨rfl, rfl⟩
            go_wp2_with fail
            refine (refIsPrime_any _ B2.out _).mono ?_; rintro e w' ⟨rfl, rfl⟩
            go_wp2_with fail
            refine (refPower_any _ _ _ Hg.out Hq.out (by omega) (by omega) _).mono ?_; rintro e w' ⟨rfl, rfl⟩
            go_wp2_with fail
            go_ret
            exact ⟨ret_bool (by rw [HE.out, Bool.eq_iff_iff]; simp; omega), (Below.refl _ _).alloc (Nat.le_refl _) _⟩
          · have m5 : decide ((2 : Int) ≤ g) = true := by simp; omega
            have m6 : decide (g < p) = false := by simpa using h5
            have HE : Hid (groupB p q g = false) := by simp [Hid, groupB, h5]
            clear h3 h4 h5
            go_enter Try.func65, Try.ntmps65
            go_wp2_with fail
            refine (refIsPrime_any _ B1.out _).mono ?_; rintro e w' ⟨rfl, rfl⟩
            go_wp2_with fail
            refine (refIsPrime_any _ B2.out _).mono ?_; rintro e w' ⟨rfl, rfl⟩
            go_wp2_with fail
            go_ret
            exact ⟨ret_bool HE.out.symm, (Below.refl _ _).alloc (Nat.le_refl _) _⟩
        · have m5 : decide ((2 : Int) ≤ g) = false := by simp; omega
          have HE : Hid (groupB p q g = false) := by simp [Hid, groupB, h4]
          clear h3 h4
          go_enter Try.func65, Try.ntmps65
          go_wp2_with fail
          refine (refIsPrime_any _ B1.out _).mono ?_; rintro e w' ⟨rfl, rfl⟩
          go_wp2_with fail
          refine (refIsPrime_any _ B2.out _).mono ?_; rintro e w' ⟨rfl, rfl⟩
          go_wp2_with fail
          go_ret
          exact ⟨ret_bool HE.out.symm, (Below.refl _ _).alloc (Nat.le_refl _) _⟩
      · have m4 : (((p : Int) - 1) % q != 0) = true := by rw [m3]; simp; omega
        have m7 : (((p : Int) - 1) % q == 0) = false := by rw [m3]; simp; omega
        have HE : Hid (groupB p q g = false) := by simp [Hid, groupB, h3]
        clear m3 h3
        go_enter Try.func65, Try.ntmps65
        go_wp2_with fail
        refine (refIsPrime_any _ B1.out _).mono ?_; rintro e w' ⟨rfl, rfl⟩
        go_wp2_with fail
        refine (refIsPrime_any _ B2.out _).mono ?_; rintro e w' ⟨rfl, rfl⟩
        go_wp2_with fail
        go_ret
        exact ⟨ret_bool HE.out.symm, (Below.refl _ _).alloc (Nat.le_refl _) _⟩

set_option maxHeartbeats 1000000 in
theorem refCheckGroup_any (p q g : Nat) (hp : p < 18446744073709551616) (hq : q < 18446744073709551616) (hg : g < 18446744073709551616) (w : World) :
    Calls Try.prog 26 #[.agg #[.int .u64 p, .int .u64 q, .int .u64 g]] w fun e w' => e = .returned (.int .i64 (grpE p q g)) ∧ Below w.heap.size w w' := by
  have Hp := Lib.hid hp
  have Hq := Lib.hid hq
  have Hg := Lib.hid hg
  clear hp hq hg
  cases h : groupB p q g
  · have HE := Lib.hid (grpE_no h)
    go_enter Try.func26, Try.ntmps26
    go_wp2_with fail
    refine (refValidGroup_any _ _ _ Hp.out Hq.out Hg.out _).mono ?_
    rintro e w1 ⟨rfl, hb⟩
    go_wp2_with fail
    go_ret
    exact ⟨ret_int HE.out.symm, ((Below.refl _ _).alloc (Nat.le_refl _) _).trans (hb.mono (by simp))⟩
  · have HE := Lib.hid (grpE_yes h)
    go_enter Try.func26, Try.ntmps26
    go_wp2_with fail
    refine (refValidGroup_any _ _ _ Hp.out Hq.out Hg.out _).mono ?_
    rintro e w1 ⟨rfl, hb⟩
    go_wp2_with fail
    go_ret
    exact ⟨ret_int HE.out.symm, ((Below.refl _ _).alloc (Nat.le_refl _) _).trans (hb.mono (by simp))⟩

set_option maxHeartbeats 400000 in
theorem Prime_no (n : Nat) (h : 1048575 < n) (w : World) : Calls Try.prog 23 #[.int .u64 n] w fun e w' => e = .returned (.tuple #[.bool false, .int .i64 4]) ∧ w = w' := by
  have m1 : (1048575 : Int) < n := by omega
  clear h
  go_enter Try.func23, Try.ntmps23
  go_wp2_with fail
  go_ret2
  exact ⟨rfl, rfl⟩
set_option maxHeartbeats 400000 in
theorem Prime_yes (n : Nat) (h : n ≤ 1048575) (w : World) : Calls Try.prog 23 #[.int .u64 n] w fun e w' => e = .returned (.tuple #[.bool (primeB n), .int .i64 0]) ∧ w = w' := by
  have m1 : (n : Int) ≤ 1048575 := by omega
  have H := Lib.hid h
  clear h
  go_enter Try.func23, Try.ntmps23
  go_wp2_with fail
  refine (prime_any _ H.out _).mono ?_
  rintro e w1 ⟨rfl, rfl⟩
  go_wp2_with fail
  go_ret2
  exact ⟨rfl, rfl⟩
set_option maxHeartbeats 400000 in
theorem refPrime_no (n : Nat) (h : 1048575 < n) (w : World) : Calls Try.prog 24 #[.int .u64 n] w fun e w' => e = .returned (.tuple #[.bool false, .int .i64 4]) ∧ w = w' := by
  have m1 : (1048575 : Int) < n := by omega
  clear h
  go_enter Try.func24, Try.ntmps24
  go_wp2_with fail
  go_ret2
  exact ⟨rfl, rfl⟩
set_option maxHeartbeats 400000 in
theorem refPrime_yes (n : Nat) (h : n ≤ 1048575) (w : World) : Calls Try.prog 24 #[.int .u64 n] w fun e w' => e = .returned (.tuple #[.bool (primeB n), .int .i64 0]) ∧ w = w' := by
  have m1 : (n : Int) ≤ 1048575 := by omega
  have H := Lib.hid h
  clear h
  go_enter Try.func24, Try.ntmps24
  go_wp2_with fail
  refine (refIsPrime_any _ H.out _).mono ?_
  rintro e w1 ⟨rfl, rfl⟩
  go_wp2_with fail
  go_ret2
  exact ⟨rfl, rfl⟩
end Go.Proofs.Ytphaojdfeojpeaa
