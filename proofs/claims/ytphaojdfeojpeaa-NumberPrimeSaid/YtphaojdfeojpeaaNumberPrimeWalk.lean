/-
  The walk of the law NumberPrime.
-/
import Derived.Test.YtphaojdfeojpeaaOutAid
import Derived.Test.YtphaojdfeojpeaaPlainGroup
namespace Go.Proofs.Ytphaojdfeojpeaa
open Go.RowKit
set_option linter.unusedVariables false

theorem prime_walk_tail : True := trivial
set_option maxHeartbeats 4000000 in
set_option maxRecDepth 100000 in
theorem numberPrime_walk (a b : Nat) (ha : a < 18446744073709551616) (hb : b < 18446744073709551616) (w : World) :
    Calls Try.prog 13 #[.int .u64 a, .int .u64 b] w fun e w' => e = .returned (.bool true) ∧ Below w.heap.size w w' := by
  have Ha := Lib.hid ha
  have Hb := Lib.hid hb
  have hbi : (b : Int) ≤ 18446744073709551615 := by omega
  clear ha hb
  rcases Nat.lt_or_ge 1048575 a with h | h
  · have H := Lib.hid h
    have t1 : decide ((1048575 : Int) < a) = true := by simp; omega
    clear h
    go_enter Try.func13, Try.ntmps13
    go_wp2_with fail
    refine (alive_any _).mono ?_
    rintro e w1 ⟨rfl, b1⟩
    go_wp2_with fail
    refine (Prime_no _ H.out _).mono ?_
    rintro e w2 ⟨rfl, rfl⟩
    go_wp2_with fail
    go_ret
    exact ⟨rfl, b1⟩
  · have H := Lib.hid h
    have t1 : decide ((1048575 : Int) < a) = false := by simp; omega
    have hai : (a : Int) ≤ 1048575 := by omega
    rcases bool_ways (primeB a) with hp | hp
    · have HP := Lib.hid hp
      clear hp
      rcases Nat.lt_or_ge a 2 with hx | hx
      · have t2 : decide ((a : Int) < 2) = true := by simp; omega
        clear h hx
        go_enter Try.func13, Try.ntmps13
        go_wp2_with fail
        refine (alive_any _).mono ?_
        rintro e w1 ⟨rfl, b1⟩
        go_wp2_with fail
        refine (Prime_yes _ H.out _).mono ?_
        rintro e w2 ⟨rfl, rfl⟩
        rw [HP.out]
        go_wp2_with fail
        go_ret
        exact ⟨rfl, b1⟩
      · have ha2 : (2 : Int) ≤ a := by omega
        have t2 : decide ((a : Int) < 2) = false := by simp; omega
        have h2 := hx
        clear hx
        rcases Nat.lt_or_ge b 2 with hx | hx
        · have t3 : decide ((b : Int) < 2) = true := by simp; omega
          clear h2
          clear h hx
          go_enter Try.func13, Try.ntmps13
          go_wp2_with fail
          refine (alive_any _).mono ?_
          rintro e w1 ⟨rfl, b1⟩
          go_wp2_with fail
          refine (Prime_yes _ H.out _).mono ?_
          rintro e w2 ⟨rfl, rfl⟩
          rw [HP.out]
          go_wp2_with fail
          go_ret
          exact ⟨rfl, b1⟩
        · have t3 : decide ((b : Int) < 2) = false := by simp; omega
          have h3 := hx
          clear hx
          obtain ⟨q, hq⟩ : ∃ q, 1048575 / a = q := ⟨_, rfl⟩
          have hqi : (1048575 : Int) / a = q := by rw [← hq, Int.natCast_ediv]; rfl
          rcases Nat.lt_or_ge q b with hx | hx
          · have t9 : decide (q < b) = true := by simpa using hx
            clear hq
            clear h hx
            go_enter Try.func13, Try.ntmps13
            go_wp2_with fail
            refine (alive_any _).mono ?_
            rintro e w1 ⟨rfl, b1⟩
            go_wp2_with fail
            refine (Prime_yes _ H.out _).mono ?_
            rintro e w2 ⟨rfl, rfl⟩
            rw [HP.out]
            go_wp2_with fail
            go_ret
            exact ⟨rfl, b1⟩
          · have t9 : decide (q < b) = false := by simp; omega
            have HML : Hid (a * b ≤ 1048575) := by
              have h1 : a * b ≤ a * q := Nat.mul_le_mul_left _ hx
              have h2 := Nat.mul_div_le 1048575 a
              rw [hq] at h2
              unfold Hid
              omega
            have HM : Hid ((a : Int) * b = ((a * b : Nat) : Int)) := (Int.natCast_mul _ _).symm
            have HQ : Hid (primeB (a * b) = false) := primeB_prod (by omega) (by omega) HML.out
            have m1 : 0 ≤ (a : Int) * b := by rw [← Int.natCast_mul]; omega
            have m2 : (a : Int) * b ≤ 1048575 := by have := HML.out; rw [← Int.natCast_mul]; omega
            clear hq
            clear h hx
            go_enter Try.func13, Try.ntmps13
            go_wp2_with fail
            refine (alive_any _).mono ?_
            rintro e w1 ⟨rfl, b1⟩
            go_wp2_with fail
            refine (Prime_yes _ H.out _).mono ?_
            rintro e w2 ⟨rfl, rfl⟩
            rw [HP.out]
            go_wp2_with fail
            rw [HM.out]
            refine (Prime_yes _ HML.out _).mono ?_
            rintro e w3 ⟨rfl, rfl⟩
            rw [HQ.out]
            go_wp2_with fail
            go_ret
            exact ⟨rfl, b1⟩
    · have HP := Lib.hid hp
      obtain ⟨h2, hs⟩ := primeB_spec h hp
      have HS := Lib.hid hs
      have ha2 : (2 : Int) ≤ a := by omega
      have t2 : decide ((a : Int) < 2) = false := by simp; omega
      clear hp hs
      rcases Nat.lt_or_ge b 2 with hx | hx
      · have t3 : decide ((b : Int) < 2) = true := by simp; omega
        have t4 : decide ((2 : Int) ≤ b) = false := by simp; omega
        clear h2
        clear h hx
        go_enter Try.func13, Try.ntmps13
        go_wp2_with fail
        refine (alive_any _).mono ?_
        rintro e w1 ⟨rfl, b1⟩
        go_wp2_with fail
        refine (Prime_yes _ H.out _).mono ?_
        rintro e w2 ⟨rfl, rfl⟩
        rw [HP.out]
        go_wp2_with fail
        go_ret
        exact ⟨rfl, b1⟩
      · have t3 : decide ((b : Int) < 2) = false := by simp; omega
        have t4 : decide ((2 : Int) ≤ b) = true := by simp; omega
        have h3 := hx
        have hb0 : (1 : Int) ≤ b := by omega
        clear hx
        rcases Nat.lt_or_ge b a with hx | hx
        · have t5 : decide (b < a) = true := by simpa using hx
          obtain ⟨r, hr⟩ : ∃ r, a % b = r := ⟨_, rfl⟩
          have hri : (a : Int) % b = r := by rw [← hr, Int.natCast_emod]
          have t6 : ((r : Int) == 0) = false := by have := HS.out b h3 hx; rw [beq_eq_false_iff_ne]; omega
          have t6' : (r == 0) = false := by have := HS.out b h3 hx; rw [beq_eq_false_iff_ne]; omega
          clear hr hx
          obtain ⟨q, hq⟩ : ∃ q, 1048575 / a = q := ⟨_, rfl⟩
          have hqi : (1048575 : Int) / a = q := by rw [← hq, Int.natCast_ediv]; rfl
          rcases Nat.lt_or_ge q b with hx | hx
          · have t9 : decide (q < b) = true := by simpa using hx
            clear hq
            clear h hx
            go_enter Try.func13, Try.ntmps13
            go_wp2_with fail
            refine (alive_any _).mono ?_
            rintro e w1 ⟨rfl, b1⟩
            go_wp2_with fail
            refine (Prime_yes _ H.out _).mono ?_
            rintro e w2 ⟨rfl, rfl⟩
            rw [HP.out]
            go_wp2_with fail
            go_ret
            exact ⟨rfl, b1⟩
          · have t9 : decide (q < b) = false := by simp; omega
            have HML : Hid (a * b ≤ 1048575) := by
              have h1 : a * b ≤ a * q := Nat.mul_le_mul_left _ hx
              have h2 := Nat.mul_div_le 1048575 a
              rw [hq] at h2
              unfold Hid
              omega
            have HM : Hid ((a : Int) * b = ((a * b : Nat) : Int)) := (Int.natCast_mul _ _).symm
            have HQ : Hid (primeB (a * b) = false) := primeB_prod (by omega) (by omega) HML.out
            have m1 : 0 ≤ (a : Int) * b := by rw [← Int.natCast_mul]; omega
            have m2 : (a : Int) * b ≤ 1048575 := by have := HML.out; rw [← Int.natCast_mul]; omega
            clear hq
            clear h hx
            go_enter Try.func13, Try.ntmps13
            go_wp2_with fail
            refine (alive_any _).mono ?_
            rintro e w1 ⟨rfl, b1⟩
            go_wp2_with fail
            refine (Prime_yes _ H.out _).mono ?_
            rintro e w2 ⟨rfl, rfl⟩
            rw [HP.out]
            go_wp2_with fail
            rw [HM.out]
            refine (Prime_yes _ HML.out _).mono ?_
            rintro e w3 ⟨rfl, rfl⟩
            rw [HQ.out]
            go_wp2_with fail
            go_ret
            exact ⟨rfl, b1⟩
        · have t5 : decide (b < a) = false := by simp; omega
          clear hx
          obtain ⟨q, hq⟩ : ∃ q, 1048575 / a = q := ⟨_, rfl⟩
          have hqi : (1048575 : Int) / a = q := by rw [← hq, Int.natCast_ediv]; rfl
          rcases Nat.lt_or_ge q b with hx | hx
          · have t9 : decide (q < b) = true := by simpa using hx
            clear hq
            clear h hx
            go_enter Try.func13, Try.ntmps13
            go_wp2_with fail
            refine (alive_any _).mono ?_
            rintro e w1 ⟨rfl, b1⟩
            go_wp2_with fail
            refine (Prime_yes _ H.out _).mono ?_
            rintro e w2 ⟨rfl, rfl⟩
            rw [HP.out]
            go_wp2_with fail
            go_ret
            exact ⟨rfl, b1⟩
          · have t9 : decide (q < b) = false := by simp; omega
            have HML : Hid (a * b ≤ 1048575) := by
              have h1 : a * b ≤ a * q := Nat.mul_le_mul_left _ hx
              have h2 := Nat.mul_div_le 1048575 a
              rw [hq] at h2
              unfold Hid
              omega
            have HM : Hid ((a : Int) * b = ((a * b : Nat) : Int)) := (Int.natCast_mul _ _).symm
            have HQ : Hid (primeB (a * b) = false) := primeB_prod (by omega) (by omega) HML.out
            have m1 : 0 ≤ (a : Int) * b := by rw [← Int.natCast_mul]; omega
            have m2 : (a : Int) * b ≤ 1048575 := by have := HML.out; rw [← Int.natCast_mul]; omega
            clear hq
            clear h hx
            go_enter Try.func13, Try.ntmps13
            go_wp2_with fail
            refine (alive_any _).mono ?_
            rintro e w1 ⟨rfl, b1⟩
            go_wp2_with fail
            refine (Prime_yes _ H.out _).mono ?_
            rintro e w2 ⟨rfl, rfl⟩
            rw [HP.out]
            go_wp2_with fail
            rw [HM.out]
            refine (Prime_yes _ HML.out _).mono ?_
            rintro e w3 ⟨rfl, rfl⟩
            rw [HQ.out]
            go_wp2_with fail
            go_ret
            exact ⟨rfl, b1⟩
end Go.Proofs.Ytphaojdfeojpeaa
