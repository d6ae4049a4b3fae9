/-
  The walk of the law NumberTexts.
-/
import Derived.Test.YtphaojdfeojpeaaRefParse
import Derived.Test.YtphaojdfeojpeaaNumberNaturalsWalk
namespace Go.Proofs.Ytphaojdfeojpeaa
open Go.RowKit
set_option linter.unusedVariables false

set_option maxHeartbeats 2000000 in
set_option maxRecDepth 100000 in
theorem numberTexts_walk (A : Option Addr) (ca : Nat) (a : List Nat) (s : ByteArray) (n : Nat) (w : World) (ha : NR w A ca a) (hs0 : s.size ≤ 9223372036854775807) (hn : n < 18446744073709551616) :
    Calls Try.prog 5 #[.slice A a.length ca, .string s, .int .u64 n] w fun e w' => e = .returned (.bool true) ∧ Below w.heap.size w w' := by
  have Ra := Lib.hid ha
  have HN := Lib.hid hn
  clear ha hn
  by_cases h7 : 700 < s.size
  · have t1 : decide ((700 : Int) < s.size) = true := by simp; omega
    clear h7
    go_enter Try.func5, Try.ntmps5
    go_wp2_with fail
    go_ret
    exact ⟨rfl, Below.refl _ _⟩
  · have t1 : decide ((700 : Int) < s.size) = false := by simp; omega
    have hs : s.size ≤ 700 := by omega
    clear h7
    obtain ⟨l, hl⟩ : ∃ l, s.toList = l := ⟨_, rfl⟩
    have HL := Lib.hid hl
    clear hl
    go_enter Try.func5, Try.ntmps5
    go_wp2_with fail
    refine (Text_any A ca a _ rfl Ra.out).mono ?_
    rintro e w1 ⟨rfl, b1⟩
    go_wp2_with fail
    refine (refText_any A ca a _ rfl (Ra.out.below b1)).mono ?_
    rintro e w2 ⟨rfl, b2⟩
    generalize txtS a = t at *
    have k2 : Below w.heap.size w w2 := b1.trans (b2.mono b1.size)
    clear b1 b2
    go_wp2_with fail
    refine (Parse_any s l HL.out _ (by omega)).mono ?_
    rintro e w3 ⟨C, cc, rfl, hC, b3⟩
    have k3 := k2.trans (b3.mono k2.size)
    go_wp2_with fail
    refine (refParse_any s l HL.out _ (by omega)).mono ?_
    rintro e w4 ⟨D, cd, rfl, hD, b4⟩
    generalize parseS l = r at *
    have k4 := k3.trans (b4.mono k3.size)
    have hC2 := Lib.hid (hC.1.below b4)
    have hD2 := Lib.hid hD.1
    clear hC hD b3 b4 k2 k3
    go_wp2_with fail
    refine (Same_any C cc r.1 D cd r.1 _ rfl rfl hC2.out hD2.out).mono ?_
    rintro e w5 ⟨rfl, b5⟩
    rw [sameB_self]
    have k5 := k4.trans (b5.mono k4.size)
    clear k4 b5
    go_wp2_with fail
    refine (Of_any n _ HN.out).mono ?_
    rintro e w6 ⟨X, cx, rfl, hX, b6⟩
    have k6 := k5.trans (b6.mono k5.size)
    go_wp2_with fail
    refine (refOf_any n _ HN.out).mono ?_
    rintro e w7 ⟨Y, cy, rfl, hY, b7⟩
    have k7 := k6.trans (b7.mono k6.size)
    have hX2 := Lib.hid (hX.1.below b7)
    have hY2 := Lib.hid hY.1
    clear hX hY b6 b7 k5 k6
    go_wp2_with fail
    refine (Same_any X cx (digs n) Y cy (digs n) _ rfl rfl hX2.out hY2.out).mono ?_
    rintro e w8 ⟨rfl, b8⟩
    rw [sameB_self]
    have k8 := k7.trans (b8.mono k7.size)
    go_wp2_with fail
    go_ret
    exact ⟨rfl, k8⟩
end Go.Proofs.Ytphaojdfeojpeaa
