/-
  What the functions on inverses compute, and the law NumberModular.
-/
import Derived.Test.YtphaojdfeojpeaaModWalks
namespace Go.Proofs.Ytphaojdfeojpeaa
open Go.RowKit
set_option linter.unusedVariables false

theorem tuple_bool {v : Value} {a b : Bool} (h : a = b) : Value.tuple #[v, .bool a] = .tuple #[v, .bool b] := by rw [h]
theorem quo_cast (r x : Nat) : (r : Int) / (x : Int) = ((r / x : Nat) : Int) := by rw [Int.natCast_ediv]

set_option maxHeartbeats 1000000 in
/-- The loop of InvMod comes to the end: r is the common divisor. -/
theorem InvMod_any (a m : Nat) (ha : a < 18446744073709551616) (hm : 1 ≤ m) (hm2 : m < 4294967296) (w : World) :
    Calls Try.prog 21 #[.int .u64 a, .int .u64 m] w fun e w' => e = .returned (invV a m) ∧ Qt w w' := by
  have Ha := Lib.hid ha
  have Hm := Lib.hid hm2
  have m3 : (m : Int) ≤ 4294967295 := by omega
  clear ha hm2
  have e1 : ((a % m : Nat) : Int) = (a : Int) % (m : Int) := (emod_cast _ _).symm
  have e2 : ((a % m : Nat) : Int) < m := by have := Nat.mod_lt a hm; omega
  rw [e1] at e2
  clear e1
  have e3 : 0 ≤ (a : Int) % (m : Int) := Int.emod_nonneg _ (by omega)
  go_enter Try.func21, Try.ntmps21
  go_wp2_with (go_at_call 68; refine (modulus_yes _ hm Hm.out _).mono ?_; rintro e w' ⟨rfl, rfl⟩)
  go_region
  go_wp2
  go_loop [6, 7, 8, 9] (fun vr vx vs vt => ∃ (r x : Nat) (s t : Int), Hid (EuI a m r x s t) ∧ vr = .int .i64 r ∧ vx = .int .i64 x ∧ vs = .int .i64 s ∧ vt = .int .i64 t) (fun _ vx _ _ => (intOf vx).toNat)
  case atStart => exact ⟨m, a % m, 0, 1, EuI.start a m hm, rfl, int_cong (emod_cast _ _), rfl, rfl⟩
  case round =>
    obtain ⟨r, x, s, t, Hi, rfl, rfl, rfl, rfl⟩ := hrel
    have b1 := Hi.out.bounds
    have b2 : (r : Int) ≤ m ∧ (x : Int) < r := by have := Hi.out; unfold EuI at this; omega
    by_cases hx0 : 0 < x
    · have b3 := Hi.out.prods hx0
      rw [← quo_cast] at b3
      have b4 := (Hi.out.step hx0).bounds
      rw [← quo_cast] at b4
      have hs := Lib.hid (Hi.out.step hx0)
      have hne : ((x : Int) != 0) = true := by simp; omega
      have hne2 : ((x : Int) == 0) = false := by simp; omega
      obtain ⟨b31, b32, b33, b34, b35⟩ := b3
      have B35 := Lib.hid b35
      have b36 : (r : Int) - (r : Int) / x * x ≤ r := by omega
      have b37 : 0 ≤ (r : Int) - (r : Int) / x * x := by omega
      clear b35
      have b38 : 0 ≤ (r : Int) / x ∧ (r : Int) / x ≤ r := by
        rw [quo_cast]
        exact ⟨Int.natCast_nonneg _, Int.ofNat_le.2 (Nat.div_le_self r x)⟩
      obtain ⟨b381, b382⟩ := b38
      go_wp2
      go_round
      case rel => exact ⟨x, r % x, t, s - ((r / x : Nat) : Int) * t, hs.out, rfl, int_cong B35.out, rfl, int_cong (by rw [quo_cast])⟩
      case measure =>
        have := Nat.mod_lt r hx0
        have := B35.out
        simp [intOf]; omega
    · have hne : ((x : Int) != 0) = false := by simp; omega
      by_cases h1 : r = 1
      · have hr1 : ((r : Int) != 1) = false := by simp; omega
        have t1 := tmod_bounds s m hm
        obtain rfl : x = 0 := by omega
        have H1 := Lib.hid h1
        have t2 := back_bounds s m hm
        clear h1
        go_wp2
        go_ret2
        have hi := Hi.out
        rw [H1.out] at hi
        exact ⟨invV_yes hi.done.symm (back_is hm hi), (Qt.refl _).drew⟩
      · have hr1 : ((r : Int) != 1) = true := by simp; omega
        have H1 : Hid (¬ Nat.gcd a m = 1) := by
          obtain rfl : x = 0 := by omega
          have := Hi.out.done
          unfold Hid
          omega
        clear h1
        go_wp2
        go_ret2
        exact ⟨invV_no H1.out, (Qt.refl _).drew⟩

/-- Is the common divisor 1? -/
def copB (a m : Nat) : Bool := Nat.gcd a m == 1
/-- What Inverse returns for a modulus. -/
def InvP (a m : Nat) (v : Value) : Prop := ∃ s : Nat, v = .tuple #[.int .u64 s, .bool (copB a m)] ∧ (Nat.gcd a m = 1 → s = invm a m) ∧ s < m

set_option maxHeartbeats 1000000 in
theorem refInverse_any (a m : Nat) (ha : a < 18446744073709551616) (hm : 1 ≤ m) (hm2 : m < 4294967296) (w : World) :
    Calls Try.prog 71 #[.int .u64 a, .int .u64 m] w fun e w' => (∃ v, InvP a m v ∧ e = .returned v) ∧ Qt w w' := by
  have Ha := Lib.hid ha
  have Hm := Lib.hid hm2
  have m3 : (m : Int) ≤ 4294967295 := by omega
  clear ha hm2
  go_enter Try.func71, Try.ntmps71
  go_wp2
  go_region
  go_wp2
  go_loopw [6, 7, 8, 9] (fun vr vs vx vy wr => ∃ (r s x y : Nat), Hid (EuJ a m r x s y) ∧ vr = .int .u64 r ∧ vs = .int .u64 s ∧ vx = .int .u64 x ∧ vy = .int .u64 y ∧ Qt w wr) (fun _ _ vx _ _ => (intOf vx).toNat)
  case atStart => exact ⟨a % m, 1 % m, m, 0, EuJ.start a m hm, int_cong (emod_cast _ _), int_cong (emod_cast 1 _), rfl, rfl, (Qt.refl _).drew⟩
  case round =>
    obtain ⟨r, s, x, y, Hi, rfl, rfl, rfl, rfl, hq⟩ := hrel
    have b1 : (r : Int) ≤ m ∧ (x : Int) ≤ m ∧ (s : Int) < m ∧ (y : Int) < m := by have := Hi.out; unfold EuJ at this; omega
    obtain ⟨b11, b12, b13, b14⟩ := b1
    by_cases hx0 : 0 < x
    · have hs := Lib.hid (Hi.out.step hx0 hm)
      have hne : ((x : Int) != 0) = true := by simp; omega
      have hne2 : ((x : Int) == 0) = false := by simp; omega
      have c1 : 0 ≤ (r : Int) / x ∧ (r : Int) / x ≤ r := by
        rw [quo_cast]
        exact ⟨Int.natCast_nonneg _, Int.ofNat_le.2 (Nat.div_le_self r x)⟩
      have c2 : 0 ≤ (r : Int) / x * x ∧ (r : Int) / x * x ≤ r := by
        rw [quo_cast, ← Int.natCast_mul]
        exact ⟨Int.natCast_nonneg _, Int.ofNat_le.2 (Nat.div_mul_le_self r x)⟩
      have c3 : 0 ≤ (r : Int) / x % m ∧ (r : Int) / x % m < m := ⟨Int.emod_nonneg _ (by omega), Int.emod_lt_of_pos _ (by omega)⟩
      have c4 : 0 ≤ (r : Int) / x % m * y ∧ (r : Int) / x % m * y ≤ 18446744073709551615 := by
        rw [quo_cast, emod_cast]
        exact mul_in64 (Nat.mod_lt _ hm) (by omega : y < m) Hm.out
      have c5 : 0 ≤ (r : Int) / x % m * y % m ∧ (r : Int) / x % m * y % m < m := ⟨Int.emod_nonneg _ (by omega), Int.emod_lt_of_pos _ (by omega)⟩
      have C6 : Hid ((r : Int) - (r : Int) / x * x = ((r % x : Nat) : Int)) := by
        unfold Hid
        have h2 : ((x * (r / x) + r % x : Nat) : Int) = r := by rw [Nat.div_add_mod]
        rw [Int.natCast_add, Int.natCast_mul, Int.mul_comm] at h2
        rw [quo_cast]
        omega
      have C7 : Hid (((s : Int) + ((m : Int) - (r : Int) / x % m * y % m)) % m = (((s + (m - r / x % m * y % m)) % m : Nat) : Int)) := by
        unfold Hid
        have hlt : r / x % m * y % m < m := Nat.mod_lt _ hm
        rw [Int.natCast_emod, Int.natCast_add, Int.natCast_sub (Nat.le_of_lt hlt), quo_cast, emod_cast, mulmod_cast]
      obtain ⟨c11, c12⟩ := c1
      obtain ⟨c21, c22⟩ := c2
      obtain ⟨c31, c32⟩ := c3
      obtain ⟨c41, c42⟩ := c4
      obtain ⟨c51, c52⟩ := c5
      go_wp2
      go_region
      go_wp2
      go_roundw
      case rel => exact ⟨x, y, r % x, _, hs.out, rfl, rfl, int_cong C6.out, int_cong C7.out, hq.drew⟩
      case measure =>
        have := Nat.mod_lt r hx0
        have := C6.out
        simp [intOf]; omega
    · have hne : ((x : Int) != 0) = false := by simp; omega
      obtain rfl : x = 0 := by omega
      have hg := Hi.out.gcd
      have hsm : s < m := by omega
      have HG := Lib.hid hg
      clear hg
      go_wp2
      go_ret2
      refine ⟨⟨_, ⟨s, ?_, ?_, hsm⟩, rfl⟩, hq⟩
      · exact tuple_bool (by unfold copB; rw [← HG.out, Bool.eq_iff_iff]; simp; omega)
      · intro h1
        have hi := Hi.out
        rw [HG.out, h1] at hi
        exact hi.inv

set_option maxHeartbeats 1000000 in
theorem InvMod_no (a m : Nat) (h : m < 1 ∨ 4294967296 ≤ m) (w : World) : Calls Try.prog 21 #[.int .u64 a, .int .u64 m] w fun e w' => e = .returned (.tuple #[.int .u64 0, .int .i64 2]) ∧ w = w' := by
  have H := Lib.hid h
  clear h
  go_enter Try.func21, Try.ntmps21
  go_wp2_with (go_at_call 68; refine (modulus_no _ H.out _).mono ?_; rintro e w' ⟨rfl, rfl⟩)
  go_ret2
  exact ⟨rfl, rfl⟩
set_option maxHeartbeats 1000000 in
theorem refInvMod_no (a m : Nat) (h : m < 1 ∨ 4294967296 ≤ m) (w : World) : Calls Try.prog 22 #[.int .u64 a, .int .u64 m] w fun e w' => e = .returned (.tuple #[.int .u64 0, .int .i64 2]) ∧ w = w' := by
  rcases h with h | h
  · obtain rfl : m = 0 := by omega
    go_enter Try.func22, Try.ntmps22
    go_wp2_with fail
    go_ret2
    exact ⟨rfl, rfl⟩
  · have h1 : 1 ≤ m := by omega
    have h2 : (4294967296 : Int) ≤ m := by omega
    clear h
    go_enter Try.func22, Try.ntmps22
    go_wp2_with fail
    go_ret2
    exact ⟨rfl, rfl⟩
set_option maxHeartbeats 1000000 in
theorem refInvMod_any (a m : Nat) (ha : a < 18446744073709551616) (hm : 1 ≤ m) (hm2 : m < 4294967296) (w : World) :
    Calls Try.prog 22 #[.int .u64 a, .int .u64 m] w fun e w' => e = .returned (invV a m) ∧ Qt w w' := by
  have Ha := Lib.hid ha
  have Hm := Lib.hid hm2
  have m3 : (m : Int) ≤ 4294967295 := by omega
  clear ha hm2
  by_cases hg : Nat.gcd a m = 1
  · have HG := Lib.hid hg
    have hd : copB a m = true := by simpa [copB] using hg
    clear hg
    go_enter Try.func22, Try.ntmps22
    go_wp2_with fail
    refine (refInverse_any _ _ Ha.out hm Hm.out _).mono ?_
    rintro e w' ⟨⟨v, ⟨s, hv, hs1, hs⟩, rfl⟩, hq⟩
    subst hv
    rw [hd]
    have Hs := Lib.hid (hs1 HG.out)
    clear hs1
    go_wp2_with fail
    go_ret2
    exact ⟨invV_yes HG.out (by rw [Hs.out]), hq⟩
  · have HG := Lib.hid hg
    have hd : copB a m = false := by simpa [copB] using hg
    clear hg
    go_enter Try.func22, Try.ntmps22
    go_wp2_with fail
    refine (refInverse_any _ _ Ha.out hm Hm.out _).mono ?_
    rintro e w' ⟨⟨v, ⟨s, hv, hs1, hs⟩, rfl⟩, hq⟩
    subst hv
    rw [hd]
    clear hs1
    go_wp2_with fail
    go_ret2
    exact ⟨invV_no HG.out, hq⟩
end Go.Proofs.Ytphaojdfeojpeaa
