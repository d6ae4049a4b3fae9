/-
  What the functions on primes and groups compute.
-/
import Derived.Test.YtphaojdfeojpeaaModWalks
import Derived.Test.YtphaojdfeojpeaaPlainPrime
import Derived.Deep.RegionWith
namespace Go.Proofs.Ytphaojdfeojpeaa
open Go.RowKit
set_option linter.unusedVariables false

set_option maxHeartbeats 400000 in
theorem prime_big (n : Nat) (hn : 1048575 < n) (w : World) :
    Calls Try.prog 72 #[.int .u64 n] w fun e w' => e = .returned (.bool false) ∧ w = w' := by
  have h1 : (1048575 : Int) < n := by omega
  have h2 : decide ((n : Int) < 2) = false := by simp; omega
  clear hn
  go_enter Try.func72, Try.ntmps72
  go_wp2
  go_ret
  exact ⟨rfl, rfl⟩
theorem sq_in (d n : Nat) (hn : n ≤ 1048575) (h : d ≤ n + 1) : 0 ≤ (d : Int) * d ∧ (d : Int) * d ≤ 18446744073709551615 := by
  have : d * d ≤ 1048576 * 1048576 := Nat.mul_le_mul (by omega) (by omega)
  rw [← Int.natCast_mul]
  omega
set_option maxHeartbeats 400000 in
theorem prime_any (n : Nat) (hn : n ≤ 1048575) (w : World) :
    Calls Try.prog 72 #[.int .u64 n] w fun e w' => e = .returned (.bool (primeB n)) ∧ w = w' := by
  have hn1 : (n : Int) ≤ 1048575 := by omega
  by_cases h2 : n < 2
  · have HP := Lib.hid (primeB_small h2)
    have h3 : (n : Int) < 2 := by omega
    have Hn := Lib.hid hn
    clear hn h2
    go_enter Try.func72, Try.ntmps72
    go_wp2
    go_ret
    exact ⟨ret_bool HP.out.symm, rfl⟩
  · have h3 : (2 : Int) ≤ n := by omega
    have Hn := Lib.hid hn
    clear hn h2
    go_enter Try.func72, Try.ntmps72
    go_wp2
    go_loop [3] (fun vd => ∃ d : Nat, 2 ≤ d ∧ d ≤ n + 1 ∧ Hid (∀ c, 2 ≤ c → c < d → n % c ≠ 0) ∧ vd = .int .u64 d) (fun vd => n + 2 - (intOf vd).toNat)
    case atStart => exact ⟨2, by omega, by omega, fun c h1 h2 => by omega, rfl⟩
    case round =>
      obtain ⟨d, hd, hd2, H, rfl⟩ := hrel
      obtain ⟨s1, s2⟩ := sq_in d n Hn.out hd2
      have s3 : 0 ≤ (n : Int) % d := Int.emod_nonneg _ (by omega)
      by_cases hz : n % d = 0
      · by_cases hs : d * d ≤ n
        · have HP := Lib.hid (primeB_found Hn.out hd hs hz)
          have hz1 : ((n : Int) % d == 0) = true := by rw [emod_cast]; simp [hz]
          have hs1 : (d : Int) * d ≤ n := by rw [← Int.natCast_mul]; omega
          clear hz hs
          go_wp2
          go_ret
          exact ⟨ret_bool HP.out.symm, rfl⟩
        · have HP := Lib.hid (primeB_end Hn.out (by omega) (by omega) H.out)
          have hs1 : (n : Int) < (d : Int) * d := by rw [← Int.natCast_mul]; omega
          clear hz hs
          go_wp2
          go_ret
          exact ⟨ret_bool HP.out.symm, rfl⟩
      · by_cases hs : d * d ≤ n
        · have hz1 : ((n : Int) % d == 0) = false := by rw [emod_cast]; simp; omega
          have hs1 : (d : Int) * d ≤ n := by rw [← Int.natCast_mul]; omega
          have H2 : Hid (∀ c, 2 ≤ c → c < d + 1 → n % c ≠ 0) := fun c h1 h2 => by
            by_cases hc : c = d
            · rw [hc]; exact hz
            · exact H.out c h1 (by omega)
          have hdn : d ≤ n := Nat.le_trans (Nat.le_mul_self d) hs
          clear hz hs
          go_wp2
          go_round
          case rel => exact ⟨d + 1, by omega, by omega, H2, by go_num⟩
          case measure => simp [intOf]; omega
        · have HP := Lib.hid (primeB_end Hn.out (by omega) (by omega) H.out)
          have hs1 : (n : Int) < (d : Int) * d := by rw [← Int.natCast_mul]; omega
          clear hz hs
          go_wp2
          go_ret
          exact ⟨ret_bool HP.out.symm, rfl⟩
set_option maxHeartbeats 400000 in
theorem refIsPrime_any (n : Nat) (hn : n ≤ 1048575) (w : World) :
    Calls Try.prog 73 #[.int .u64 n] w fun e w' => e = .returned (.bool (primeB n)) ∧ w = w' := by
  have hn1 : (n : Int) ≤ 1048575 := by omega
  have Hn := Lib.hid hn
  clear hn
  go_enter Try.func73, Try.ntmps73
  go_wp2
  go_loop [3] (fun vd => ∃ d : Nat, 2 ≤ d ∧ (d ≤ n + 1 ∨ d ≤ 2) ∧ Hid (∀ c, 2 ≤ c → c < d → n % c ≠ 0) ∧ vd = .int .u64 d) (fun vd => n + 3 - (intOf vd).toNat)
  case atStart => exact ⟨2, by omega, by omega, fun c h1 h2 => by omega, rfl⟩
  case round =>
    obtain ⟨d, hd, hd2, H, rfl⟩ := hrel
    have HS : 0 ≤ (d : Int) * d ∧ (d : Int) * d ≤ 18446744073709551615 := by
      have := Hn.out
      have : d * d ≤ 1048576 * 1048576 := Nat.mul_le_mul (by omega) (by omega)
      rw [← Int.natCast_mul]
      omega
    obtain ⟨s1, s2⟩ := HS
    have s3 : 0 ≤ (n : Int) % d := Int.emod_nonneg _ (by omega)
    by_cases hs : d * d ≤ n
    · have hs1 : (d : Int) * d ≤ n := by rw [← Int.natCast_mul]; omega
      have hdn : d ≤ n := Nat.le_trans (Nat.le_mul_self d) hs
      by_cases hz : n % d = 0
      · have HP := Lib.hid (primeB_found Hn.out hd hs hz)
        have hz1 : ((n : Int) % d == 0) = true := by rw [emod_cast]; simp [hz]
        clear hz hs hd2
        go_wp2
        go_ret
        exact ⟨ret_bool HP.out.symm, rfl⟩
      · have hz1 : ((n : Int) % d == 0) = false := by rw [emod_cast]; simp; omega
        have H2 : Hid (∀ c, 2 ≤ c → c < d + 1 → n % c ≠ 0) := fun c h1 h2 => by
          by_cases hc : c = d
          · rw [hc]; exact hz
          · exact H.out c h1 (by omega)
        clear hz hs hd2
        go_wp2
        go_round
        case rel => exact ⟨d + 1, by omega, by omega, H2, by go_num⟩
        case measure => simp [intOf]; omega
    · have hs1 : (n : Int) < (d : Int) * d := by rw [← Int.natCast_mul]; omega
      have HP : Hid (primeB n = decide ((2 : Int) ≤ n)) := by
        unfold Hid
        by_cases h2 : 2 ≤ n
        · rw [primeB_end Hn.out h2 (by omega) H.out]
          simp; omega
        · rw [primeB_small (by omega)]
          simp; omega
      clear hs hd2
      go_wp2
      go_ret
      exact ⟨ret_bool HP.out.symm, rfl⟩

theorem prime_all (n : Nat) (w : World) : Calls Try.prog 72 #[.int .u64 n] w fun e w' => e = .returned (.bool (primeF n)) ∧ w = w' := by
  by_cases h : n ≤ 1048575
  · have e1 : primeF n = primeB n := by simp [primeF, h]
    rw [e1]; exact prime_any n h w
  · have e1 : primeF n = false := by simp [primeF, h]
    rw [e1]; exact prime_big n (by omega) w

/-- A group as a value. -/
def grp (p q g : Nat) : Value := .agg #[.int .u64 p, .int .u64 q, .int .u64 g]

set_option maxHeartbeats 1000000 in
theorem CheckGroup_any (p q g : Nat) (hp : p < 18446744073709551616) (hq : q < 18446744073709551616) (hg : g < 18446744073709551616) (w : World) :
    Calls Try.prog 25 #[.agg #[.int .u64 p, .int .u64 q, .int .u64 g]] w fun e w' => e = .returned (.int .i64 (grpE p q g)) ∧ Below w.heap.size w w' := by
  have Hp := Lib.hid hp
  have Hq := Lib.hid hq
  have Hg := Lib.hid hg
  have hg3 : (g : Int) ≤ 18446744073709551615 := by omega
  clear hp hq hg
  rcases group_ways p q g with ⟨h1, h⟩ | ⟨h1, h2, h⟩ | ⟨h1, h2, h3, h⟩ | ⟨h1, h2, h3, h4, h⟩ | ⟨h1, h2, h3, h4, h5, h⟩ | ⟨h1, h2, h3, h4, h5, h6, h⟩ | ⟨h1, h2, h3, h4, h5, h6, h⟩
  · have HE := Lib.hid (grpE_no h)
    clear h
    go_enter Try.func25, Try.ntmps25
    go_wp2_with (go_at_call 72; refine (prime_all _ _).mono ?_; rintro e w' ⟨rfl, rfl⟩)
    go_ret
    exact ⟨ret_int HE.out.symm, (Below.refl _ _).alloc (Nat.le_refl _) _⟩
  · have HE := Lib.hid (grpE_no h)
    clear h
    go_enter Try.func25, Try.ntmps25
    go_wp2_with (go_at_call 72; refine (prime_all _ _).mono ?_; rintro e w' ⟨rfl, rfl⟩)
    go_ret
    exact ⟨ret_int HE.out.symm, (Below.refl _ _).alloc (Nat.le_refl _) _⟩
  all_goals
    have p1 : (2 : Int) ≤ p ∧ (p : Int) ≤ 1048575 := by have := primeF_le h1; omega
    have q1 : (2 : Int) ≤ q ∧ (q : Int) ≤ 1048575 := by have := primeF_le h2; omega
    obtain ⟨p2, p3⟩ := p1
    obtain ⟨q2, q3⟩ := q1
    have m1 : ((p : Int) - 1) % q = (((p - 1) % q : Nat) : Int) := by rw [Int.natCast_emod]; congr 1; omega
  · have HE := Lib.hid (grpE_no h)
    have m2 : (((p : Int) - 1) % q != 0) = true := by rw [m1]; simp; omega
    have m3 : (((p : Int) - 1) % q == 0) = false := by rw [m1]; simp; omega
    clear h h3 m1
    go_enter Try.func25, Try.ntmps25
    go_wp2_with (go_at_call 72; refine (prime_all _ _).mono ?_; rintro e w' ⟨rfl, rfl⟩)
    go_ret
    exact ⟨ret_int HE.out.symm, (Below.refl _ _).alloc (Nat.le_refl _) _⟩
  · have HE := Lib.hid (grpE_no h)
    have m2 : (((p : Int) - 1) % q != 0) = false := by rw [m1]; simp; omega
    have m3 : decide ((g : Int) < 2) = true := by simp; omega
    clear h h3 m1
    go_enter Try.func25, Try.ntmps25
    go_wp2_with (go_at_call 72; refine (prime_all _ _).mono ?_; rintro e w' ⟨rfl, rfl⟩)
    go_ret
    exact ⟨ret_int HE.out.symm, (Below.refl _ _).alloc (Nat.le_refl _) _⟩
  · have HE := Lib.hid (grpE_no h)
    have m2 : (((p : Int) - 1) % q != 0) = false := by rw [m1]; simp; omega
    have m3 : decide ((g : Int) < 2) = false := by simp; omega
    have m4 : decide ((p : Int) ≤ g) = true := by simp; omega
    clear h h3 m1
    go_enter Try.func25, Try.ntmps25
    go_wp2_with (go_at_call 72; refine (prime_all _ _).mono ?_; rintro e w' ⟨rfl, rfl⟩)
    go_ret
    exact ⟨ret_int HE.out.symm, (Below.refl _ _).alloc (Nat.le_refl _) _⟩
  · have HE := Lib.hid (grpE_no h)
    have m2 : (((p : Int) - 1) % q != 0) = false := by rw [m1]; simp; omega
    have m3 : decide ((g : Int) < 2) = false := by simp; omega
    have m4 : decide ((p : Int) ≤ g) = false := by simp; omega
    have m5 : ((powm g q p : Int) != 1) = true := by simp; omega
    have m6 : ((powm g q p : Int) == 1) = false := by simp; omega
    clear h h3 m1 h6
    go_enter Try.func25, Try.ntmps25
    go_wp2_with (first | (go_at_call 72; refine (prime_all _ _).mono ?_; rintro e w' ⟨rfl, rfl⟩) | (go_at_call 69; refine (power_any _ _ _ Hg.out Hq.out (by omega) (by omega) _).mono ?_; rintro e w' ⟨rfl, rfl⟩))
    go_ret
    exact ⟨ret_int HE.out.symm, (Below.refl _ _).alloc (Nat.le_refl _) _⟩
  · have HE := Lib.hid (grpE_yes h)
    have m2 : (((p : Int) - 1) % q != 0) = false := by rw [m1]; simp; omega
    have m3 : decide ((g : Int) < 2) = false := by simp; omega
    have m4 : decide ((p : Int) ≤ g) = false := by simp; omega
    have m5 : ((powm g q p : Int) != 1) = false := by simp; omega
    clear h h3 m1 h6
    go_enter Try.func25, Try.ntmps25
    go_wp2_with (first | (go_at_call 72; refine (prime_all _ _).mono ?_; rintro e w' ⟨rfl, rfl⟩) | (go_at_call 69; refine (power_any _ _ _ Hg.out Hq.out (by omega) (by omega) _).mono ?_; rintro e w' ⟨rfl, rfl⟩))
    go_ret
    exact ⟨ret_int HE.out.symm, (Below.refl _ _).alloc (Nat.le_refl _) _⟩
end Go.Proofs.Ytphaojdfeojpeaa
