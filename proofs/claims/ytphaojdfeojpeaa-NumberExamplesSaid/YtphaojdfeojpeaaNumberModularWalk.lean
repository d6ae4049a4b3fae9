/-
  The walk of the law NumberModular.
-/
import Derived.Test.YtphaojdfeojpeaaModInv
namespace Go.Proofs.Ytphaojdfeojpeaa
open Go.RowKit
set_option linter.unusedVariables false

theorem Qt.below {B : Nat} {w w' : World} (h : Qt w w') : Below B w w' := by
  obtain ⟨n, rfl⟩ := h
  exact (Below.refl _ _).trans ⟨rfl, rfl, rfl, Nat.le_refl _, fun _ _ => rfl⟩

set_option maxHeartbeats 1000000 in
theorem numberModular_walk (b n m : Nat) (hb : b < 18446744073709551616) (hn : n < 18446744073709551616) (hm : m < 18446744073709551616) (w : World) :
    Calls Try.prog 3 #[.int .u64 b, .int .u64 n, .int .u64 m] w fun e w' => e = .returned (.bool true) ∧ Below w.heap.size w w' := by
  have Hb := Lib.hid hb
  have Hn := Lib.hid hn
  have Hm := Lib.hid hm
  clear hb hn hm
  by_cases h : m < 1 ∨ 4294967296 ≤ m
  · have H := Lib.hid h
    clear h
    go_enter Try.func3, Try.ntmps3
    go_wp2_with (first | (go_at_call 19; refine (PowMod_no _ _ _ H.out _).mono ?_; rintro e w' ⟨rfl, rfl⟩) | (go_at_call 20; refine (refPowMod_no _ _ _ H.out _).mono ?_; rintro e w' ⟨rfl, rfl⟩) | (go_at_call 21; refine (InvMod_no _ _ H.out _).mono ?_; rintro e w' ⟨rfl, rfl⟩) | (go_at_call 22; refine (refInvMod_no _ _ H.out _).mono ?_; rintro e w' ⟨rfl, rfl⟩))
    go_ret
    exact ⟨rfl, Below.refl _ _⟩
  · have h1 : 1 ≤ m := by omega
    have H2 : Hid (m < 4294967296) := by unfold Hid; omega
    clear h
    have hpp : ((powm b n m : Nat) : Int) = ((powm b n m : Nat) : Int) := rfl
    rcases (by by_cases hg : Nat.gcd b m = 1; exact .inl ⟨_, by rw [invV, if_pos hg]⟩; exact .inr (by rw [invV, if_neg hg]) : (∃ v : Int, invV b m = .tuple #[.int .u64 v, .int .i64 0]) ∨ invV b m = .tuple #[.int .u64 0, .int .i64 10]) with ⟨v, hv⟩ | hv
    all_goals
      have HV := Lib.hid hv
      clear hv
      go_enter Try.func3, Try.ntmps3
      go_wp2_with (first | (go_at_call 19; refine (PowMod_yes _ _ _ Hb.out Hn.out h1 H2.out _).mono ?_; rintro e w' ⟨rfl, rfl⟩) | (go_at_call 20; refine (refPowMod_yes _ _ _ Hb.out Hn.out h1 H2.out _).mono ?_; rintro e w' ⟨rfl, rfl⟩))
      refine (InvMod_any _ _ Hb.out h1 H2.out _).mono ?_
      rintro e w1 ⟨rfl, hq⟩
      rw [HV.out]
      go_wp2_with fail
      refine (refInvMod_any _ _ Hb.out h1 H2.out _).mono ?_
      rintro e w2 ⟨rfl, hq2⟩
      rw [HV.out]
      go_wp2_with fail
      go_ret
      exact ⟨by simp, (hq.trans hq2).below⟩
end Go.Proofs.Ytphaojdfeojpeaa
