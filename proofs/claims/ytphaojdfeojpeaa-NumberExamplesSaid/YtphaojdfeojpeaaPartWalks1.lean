/-
  What parted is made of: shifted, unshifted, Clone, Div32, subtract, giveBack.
-/
import Derived.Test.YtphaojdfeojpeaaNatMinus
import Derived.Test.YtphaojdfeojpeaaPlainKnuth
namespace Go.Proofs.Ytphaojdfeojpeaa
open Go.RowKit
set_option linter.unusedVariables false

theorem u64_shl32 {x : Nat} (h : x < 4294967296) : x <<< 32 = x * 4294967296 := Nat.shiftLeft_eq x 32

set_option maxHeartbeats 1000000 in
theorem shifted_any (A : Option Addr) (ca : Nat) (a : List Nat) (s : Nat) (w : World) {na : Nat} (hna : a.length = na) (ha : NR w A ca a) (hs : s ≤ 31) :
    Calls Try.prog 109 #[.slice A na ca, .int .u64 s] w fun e w' => ∃ g l, e = .returned (.slice (some ⟨g, 0, none⟩) (na + 1) (na + 1)) ∧ BlkN w' g l ∧ l.length = na + 1 ∧ ShI a l s na ∧ w.heap.size ≤ g ∧ Below w.heap.size w w' := by
  have la : na ≤ 35184372088832 := by have := ha.len; omega
  have Ha := Lib.hid hna
  have Ra := Lib.hid ha
  have hs2 : (s : Int) ≤ 31 := by omega
  have HS0 := Lib.hid hs
  clear hna ha hs
  go_enter Try.func109, Try.ntmps109
  go_wp2_with (at_make; refine wpList_make_nat _ rfl _ _ rfl (na + 1) rfl rfl (by omega) (by omega) (by omega) ?_; intro w1 hk1 hb1 hs1)
  have HK1 := Lib.hid hk1
  clear hk1
  go_loopw [14] (fun vk wr => ∃ (k : Nat) (l : List Nat), k ≤ na ∧ vk = .int .i64 k ∧ Hid (ShI a l s k) ∧ Hid (l.length = na + 1) ∧ Hid (BlkN wr w.heap.size l) ∧ Below w.heap.size w wr) (fun vk _ => na - (intOf vk).toNat)
  case atStart => exact ⟨0, List.replicate (na + 1) 0, by omega, rfl, by have := ShI.start a s; rw [Ha.out] at this; exact this, by simp [Hid], HK1.out, hb1⟩
  case round =>
    obtain ⟨k, l, hk, rfl, HI, HL, HB, hbel⟩ := hrel
    by_cases hkn : k < na
    · obtain ⟨b0, off, rfl, hb0, hc0⟩ := Ra.out.at_ (i := k) (by have := Ha.out; omega)
      have hca : wr.cell? ⟨b0, off + k, none⟩ = some (.int .u32 (dg a k : Nat)) := (hbel.cell (p := ⟨b0, _, none⟩) hb0).trans hc0
      clear hc0
      have hda : (dg a k : Int) ≤ 4294967295 := by have := dg_lt Ra.out.dig k; omega
      have hdl : (dg l k : Int) ≤ 4294967295 := by have := dg_lt HI.out.1 k; omega
      have hcell := HB.out.cell (i := k) (by have := HL.out; omega)
      have hfr := HB.out.frozen k
      have hcell2 := HB.out.cell (i := k + 1) (by have := HL.out; omega)
      have hfr2 := HB.out.frozen (k + 1)
      have HS := Lib.hid (HI.out.step Ra.out.dig HS0.out (by have := Ha.out; omega))
      have hor := or_low (x := dg a k) HS0.out HI.out.2.2.1
      have hlt := or_low_lt (x := dg a k) HS0.out HI.out.2.2.1
      have hov : dg a k * 2 ^ s / 4294967296 < 4294967296 := by
        obtain ⟨t, _, h1, _⟩ := pow_split HS0.out
        have := Nat.mul_le_mul (Nat.le_of_lt (dg_lt Ra.out.dig k)) h1
        omega
      have hpp : dg a k * 2 ^ s < 18446744073709551616 := by omega
      have ecast : (dg a k : Int) * 2 ^ s = ((dg a k * 2 ^ s : Nat) : Int) := by simp
      have HW : Hid (IntKind.u64.wrap ((dg a k : Int) * 2 ^ s) = (dg a k : Int) * 2 ^ s) := by rw [ecast]; exact IntWalk.u64_in _ (by omega)
      have HV1 : Hid (Value.int .u32 (bits BinOp.or IntKind.u32 (dg l k) ((dg a k : Int) * 2 ^ s % 4294967296)) = .int .u32 ((dg l k + dg a k * 2 ^ s % 4294967296 : Nat) : Int)) := by
        rw [ecast, show ((dg a k * 2 ^ s : Nat) : Int) % 4294967296 = ((dg a k * 2 ^ s % 4294967296 : Nat) : Int) from by omega, u32_or_nat _ _ (dg_lt HI.out.1 k) (by omega), hor]
        rfl
      have HV2 : Hid (Value.int .u32 (IntKind.u64.wrap ((dg a k : Int) * 2 ^ s) / 4294967296 % 4294967296) = .int .u32 ((dg a k * 2 ^ s / 4294967296 : Nat) : Int)) := by
        rw [HW.out, ecast]
        exact int_cong (by omega)
      have HBS := Lib.hid ((HB.out.set k hlt).set (k + 1) hov)
      rw [← HV1.out, ← HV2.out] at HBS
      clear hor hlt hov hpp ecast
      go_wp2_with fail
      go_roundw
      case rel => exact ⟨k + 1, _, by omega, by go_num, HS.out, by have := HL.out; simp [Hid, this], HBS.out, (hbel.setCell (p := ⟨w.heap.size, k, none⟩) (Nat.le_refl _) _).setCell (p := ⟨w.heap.size, k + 1, none⟩) (Nat.le_refl _) _⟩
      case measure => simp [intOf]; omega
    · obtain rfl : k = na := by omega
      go_wp2_with fail
      go_ret
      exact ⟨_, l, rfl, HB.out, HL.out, HI.out, Nat.le_refl _, hbel⟩
end Go.Proofs.Ytphaojdfeojpeaa
