/-
  The walk of the law NumberInverse.
-/
import Derived.Test.YtphaojdfeojpeaaOutAid
import Derived.Test.YtphaojdfeojpeaaPlainGroup
namespace Go.Proofs.Ytphaojdfeojpeaa
open Go.RowKit
set_option linter.unusedVariables false

theorem isB_digs_one {g : Nat} (h : g = 1) : isB (digs g) 0 [1] = true := by rw [h, digs_one (x := 1) (by omega) (by omega)]; exact isB_yes _
theorem isB_digs_not {g : Nat} (h : g ≠ 1) : isB (digs g) 0 [1] = false := by
  unfold isB
  rw [sameB_no (fun e => h (by rw [← val_digs g, e]; rfl))]
  rfl
theorem len_u64 {x : Nat} (h : x < 18446744073709551616) : (digs x).length ≤ 16 := len_small h

set_option maxHeartbeats 4000000 in
set_option maxRecDepth 100000 in
theorem numberInverse_walk (a m : Nat) (ha : a < 18446744073709551616) (hm : m < 18446744073709551616) (w : World) :
    Calls Try.prog 11 #[.int .u64 a, .int .u64 m] w fun e w' => e = .returned (.bool true) ∧ Below w.heap.size w w' := by
  have Ha := Lib.hid ha
  have Hm := Lib.hid hm
  by_cases h : m < 1 ∨ 4294967296 ≤ m
  · have H := Lib.hid h
    rcases Nat.lt_or_ge m 1 with hx | hx
    · have t1 : decide ((m : Int) < 1) = true := by simp; omega
      clear ha hm h hx
      go_enter Try.func11, Try.ntmps11
      go_wp2_with fail
      refine (alive_any _).mono ?_
      rintro e w1 ⟨rfl, b1⟩
      go_wp2_with fail
      refine (InvMod_no _ _ H.out _).mono ?_
      rintro e w2 ⟨rfl, rfl⟩
      go_wp2_with fail
      go_ret
      exact ⟨rfl, b1⟩
    · have t1 : decide ((m : Int) < 1) = false := by simp; omega
      have t2 : decide ((4294967296 : Int) ≤ m) = true := by simp; omega
      clear ha hm h hx
      go_enter Try.func11, Try.ntmps11
      go_wp2_with fail
      refine (alive_any _).mono ?_
      rintro e w1 ⟨rfl, b1⟩
      go_wp2_with fail
      refine (InvMod_no _ _ H.out _).mono ?_
      rintro e w2 ⟨rfl, rfl⟩
      go_wp2_with fail
      go_ret
      exact ⟨rfl, b1⟩
  · have h1 : 1 ≤ m := by omega
    have H2 : Hid (m < 4294967296) := by unfold Hid; omega
    have hmi : (m : Int) ≤ 4294967295 := by omega
    have h1i : (1 : Int) ≤ m := by omega
    have t1 : decide ((m : Int) < 1) = false := by simp; omega
    have t2 : decide ((4294967296 : Int) ≤ m) = false := by simp; omega
    have HGS : Hid (gcdS (digs a) (digs m) = (digs (gcdN a m), 0)) := gcdS_digs (len_u64 ha) (len_u64 hm)
    by_cases hg : gcdN a m = 1
    · have HG := Lib.hid hg
      have HV : Hid (invV a m = .tuple #[.int .u64 (invm a m : Nat), .int .i64 0]) := by unfold Hid invV; rw [if_pos (show Nat.gcd a m = 1 from hg)]
      obtain ⟨s1, s2⟩ := inv_spec h1 hg
      have HI1 := Lib.hid s1
      have HI2 : Hid (a % m * invm a m % m = 1 % m) := by unfold Hid; rw [Nat.mul_mod, Nat.mod_mod, ← Nat.mul_mod]; exact s2
      have HAM : Hid (a % m < m) := Nat.mod_lt _ h1
      obtain ⟨p1, p2⟩ := mul_in64 HAM.out HI1.out H2.out
      obtain ⟨r, hr⟩ : ∃ r, a % m = r := ⟨_, rfl⟩
      obtain ⟨x, hx⟩ : ∃ x, invm a m = x := ⟨_, rfl⟩
      obtain ⟨z, hz⟩ : ∃ z, 1 % m = z := ⟨_, rfl⟩
      have hri : (a : Int) % m = r := by rw [← hr, Int.natCast_emod]
      have hzi : (1 : Int) % m = z := by rw [← hz, Int.natCast_emod]; rfl
      rw [hr, hx] at p1 p2
      have hrx : (r : Int) * x % m = z := by rw [mulmod_cast, ← hr, ← hx, HI2.out, hz]
      have hw1 : IntKind.u64.wrap ((r : Int) * x) = (r : Int) * x := IntWalk.u64_in _ ⟨p1, p2⟩
      have hxm : (x : Int) < m := by rw [← hx]; have := HI1.out; omega
      have hxm' : decide (x < m) = true := by rw [← hx]; simpa using HI1.out
      have HX := Lib.hid hx
      have hr0 : (0 : Int) ≤ r := by omega
      rcases Nat.lt_or_ge 1048575 m with hP | hP
      · have HPN := Lib.hid hP
        have tm0 : ((m : Int) == 0) = false := by rw [beq_eq_false_iff_ne]; omega
        clear ha hm h hg s1 s2 hr hx hz hP
        go_enter Try.func11, Try.ntmps11
        go_wp2_with fail
        refine (alive_any _).mono ?_
        rintro e w1 ⟨rfl, b1⟩
        go_wp2_with fail
        refine (InvMod_any a m Ha.out h1 H2.out _).mono ?_
        rintro e w2 ⟨rfl, hq2⟩
        rw [HV.out, HX.out]
        have k2 := b1.trans (hq2.below (B := w.heap.size))
        clear b1 hq2
        go_wp2_with fail
        refine (n_any a _ rfl Ha.out).mono ?_
        rintro e w3 ⟨N1, c1, rfl, hN1, b3⟩
        have k3 := k2.trans (b3.mono k2.size)
        go_wp2_with fail
        refine (n_any m _ rfl Hm.out).mono ?_
        rintro e w4 ⟨N2, c2, rfl, hN2, b4⟩
        have k4 := k3.trans (b4.mono k3.size)
        go_wp2_with fail
        refine (Gcd_any N1 c1 (digs a) N2 c2 (digs m) _ rfl rfl (hN1.1.below b4) hN2.1).mono ?_
        rintro e w5 ⟨G, cg, rfl, hG, b5⟩
        rw [HGS.out] at hG ⊢
        have k5 := k4.trans (b5.mono k4.size)
        have HGR : Hid (NR w5 G cg (digs (gcdN a m))) := hG.1
        clear hG hN1 hN2 b3 b4 b5 k2 k3 k4
        go_wp2_with fail
        refine (is_any G cg (digs (gcdN a m)) 0 _ 1 [1] _ rfl rfl (HGR.out.alloc _) (NR.lit _ [1] _ rfl (dig_small (by decide)) 1 rfl (by omega))).mono ?_
        rintro e w6 ⟨rfl, b6⟩
        rw [isB_digs_one HG.out]
        have k6 := (k5.alloc k5.size _).trans (b6.mono (by have := k5.size; simp; omega))
        clear k5 b6
        go_wp2_with fail
        refine (Prime_no _ HPN.out _).mono ?_
        rintro e w7 ⟨rfl, rfl⟩
        go_wp2_with fail
        go_region
        all_goals
          go_wp2_with fail
          go_ret
          exact ⟨by first | rfl | simp [*], k6.drew⟩
      · have HPN := Lib.hid hP
        rcases bool_ways (primeB m) with hp | hp
        · have HPP := Lib.hid hp
          clear ha hm h hg s1 s2 hr hx hz hP hp
          go_enter Try.func11, Try.ntmps11
          go_wp2_with fail
          refine (alive_any _).mono ?_
          rintro e w1 ⟨rfl, b1⟩
          go_wp2_with fail
          refine (InvMod_any a m Ha.out h1 H2.out _).mono ?_
          rintro e w2 ⟨rfl, hq2⟩
          rw [HV.out, HX.out]
          have k2 := b1.trans (hq2.below (B := w.heap.size))
          clear b1 hq2
          go_wp2_with fail
          refine (n_any a _ rfl Ha.out).mono ?_
          rintro e w3 ⟨N1, c1, rfl, hN1, b3⟩
          have k3 := k2.trans (b3.mono k2.size)
          go_wp2_with fail
          refine (n_any m _ rfl Hm.out).mono ?_
          rintro e w4 ⟨N2, c2, rfl, hN2, b4⟩
          have k4 := k3.trans (b4.mono k3.size)
          go_wp2_with fail
          refine (Gcd_any N1 c1 (digs a) N2 c2 (digs m) _ rfl rfl (hN1.1.below b4) hN2.1).mono ?_
          rintro e w5 ⟨G, cg, rfl, hG, b5⟩
          rw [HGS.out] at hG ⊢
          have k5 := k4.trans (b5.mono k4.size)
          have HGR : Hid (NR w5 G cg (digs (gcdN a m))) := hG.1
          clear hG hN1 hN2 b3 b4 b5 k2 k3 k4
          go_wp2_with fail
          refine (is_any G cg (digs (gcdN a m)) 0 _ 1 [1] _ rfl rfl (HGR.out.alloc _) (NR.lit _ [1] _ rfl (dig_small (by decide)) 1 rfl (by omega))).mono ?_
          rintro e w6 ⟨rfl, b6⟩
          rw [isB_digs_one HG.out]
          have k6 := (k5.alloc k5.size _).trans (b6.mono (by have := k5.size; simp; omega))
          clear k5 b6
          go_wp2_with fail
          refine (Prime_yes _ HPN.out _).mono ?_
          rintro e w7 ⟨rfl, rfl⟩
          rw [HPP.out]
          go_wp2_with fail
          go_region
          all_goals
            go_wp2_with fail
            go_ret
            exact ⟨by first | rfl | simp [*], k6.drew⟩
        · have HPP := Lib.hid hp
          have hr1 : r ≠ 0 := by
            intro e
            rw [e] at hr
            have h3 : gcdN a m = m := Nat.gcd_eq_right (Nat.dvd_of_mod_eq_zero hr)
            have h4 := (primeB_spec hP hp).1
            rw [hg] at h3
            omega
          have hr2 : ((r : Int) == 0) = false := by rw [beq_eq_false_iff_ne]; omega
          have hr2' : (r == 0) = false := by rw [beq_eq_false_iff_ne]; omega
          clear ha hm h hg s1 s2 hr hx hz hP hp hr1
          go_enter Try.func11, Try.ntmps11
          go_wp2_with fail
          refine (alive_any _).mono ?_
          rintro e w1 ⟨rfl, b1⟩
          go_wp2_with fail
          refine (InvMod_any a m Ha.out h1 H2.out _).mono ?_
          rintro e w2 ⟨rfl, hq2⟩
          rw [HV.out, HX.out]
          have k2 := b1.trans (hq2.below (B := w.heap.size))
          clear b1 hq2
          go_wp2_with fail
          refine (n_any a _ rfl Ha.out).mono ?_
          rintro e w3 ⟨N1, c1, rfl, hN1, b3⟩
          have k3 := k2.trans (b3.mono k2.size)
          go_wp2_with fail
          refine (n_any m _ rfl Hm.out).mono ?_
          rintro e w4 ⟨N2, c2, rfl, hN2, b4⟩
          have k4 := k3.trans (b4.mono k3.size)
          go_wp2_with fail
          refine (Gcd_any N1 c1 (digs a) N2 c2 (digs m) _ rfl rfl (hN1.1.below b4) hN2.1).mono ?_
          rintro e w5 ⟨G, cg, rfl, hG, b5⟩
          rw [HGS.out] at hG ⊢
          have k5 := k4.trans (b5.mono k4.size)
          have HGR : Hid (NR w5 G cg (digs (gcdN a m))) := hG.1
          clear hG hN1 hN2 b3 b4 b5 k2 k3 k4
          go_wp2_with fail
          refine (is_any G cg (digs (gcdN a m)) 0 _ 1 [1] _ rfl rfl (HGR.out.alloc _) (NR.lit _ [1] _ rfl (dig_small (by decide)) 1 rfl (by omega))).mono ?_
          rintro e w6 ⟨rfl, b6⟩
          rw [isB_digs_one HG.out]
          have k6 := (k5.alloc k5.size _).trans (b6.mono (by have := k5.size; simp; omega))
          clear k5 b6
          go_wp2_with fail
          refine (Prime_yes _ HPN.out _).mono ?_
          rintro e w7 ⟨rfl, rfl⟩
          rw [HPP.out]
          go_wp2_with fail
          go_region
          all_goals
            go_wp2_with fail
            go_ret
            exact ⟨by first | rfl | simp [*], k6.drew⟩
    · have HG := Lib.hid hg
      have HV : Hid (invV a m = .tuple #[.int .u64 0, .int .i64 10]) := by unfold Hid invV; rw [if_neg (show ¬ Nat.gcd a m = 1 from hg)]
      clear ha hm h hg
      go_enter Try.func11, Try.ntmps11
      go_wp2_with fail
      refine (alive_any _).mono ?_
      rintro e w1 ⟨rfl, b1⟩
      go_wp2_with fail
      refine (InvMod_any a m Ha.out h1 H2.out _).mono ?_
      rintro e w2 ⟨rfl, hq2⟩
      rw [HV.out]
      have k2 := b1.trans (hq2.below (B := w.heap.size))
      clear b1 hq2
      go_wp2_with fail
      refine (n_any a _ rfl Ha.out).mono ?_
      rintro e w3 ⟨N1, c1, rfl, hN1, b3⟩
      have k3 := k2.trans (b3.mono k2.size)
      go_wp2_with fail
      refine (n_any m _ rfl Hm.out).mono ?_
      rintro e w4 ⟨N2, c2, rfl, hN2, b4⟩
      have k4 := k3.trans (b4.mono k3.size)
      go_wp2_with fail
      refine (Gcd_any N1 c1 (digs a) N2 c2 (digs m) _ rfl rfl (hN1.1.below b4) hN2.1).mono ?_
      rintro e w5 ⟨G, cg, rfl, hG, b5⟩
      rw [HGS.out] at hG ⊢
      have k5 := k4.trans (b5.mono k4.size)
      have HGR : Hid (NR w5 G cg (digs (gcdN a m))) := hG.1
      clear hG hN1 hN2 b3 b4 b5 k2 k3 k4
      go_wp2_with fail
      refine (is_any G cg (digs (gcdN a m)) 0 _ 1 [1] _ rfl rfl (HGR.out.alloc _) (NR.lit _ [1] _ rfl (dig_small (by decide)) 1 rfl (by omega))).mono ?_
      rintro e w6 ⟨rfl, b6⟩
      rw [isB_digs_not HG.out]
      have k6 := (k5.alloc k5.size _).trans (b6.mono (by have := k5.size; simp; omega))
      clear k5 b6
      go_wp2_with fail
      go_ret
      exact ⟨rfl, k6⟩
end Go.Proofs.Ytphaojdfeojpeaa
