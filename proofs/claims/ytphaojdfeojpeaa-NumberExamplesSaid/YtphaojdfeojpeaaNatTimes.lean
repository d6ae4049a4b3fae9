/-
  times and the reference's Times.
-/
import Derived.Test.YtphaojdfeojpeaaNatMinus
import Derived.Deep.QuietTactic
import Derived.BigQuiet
namespace Go.Proofs.Ytphaojdfeojpeaa
open Go.RowKit
set_option linter.unusedVariables false

set_option maxHeartbeats 2000000 in
set_option maxRecDepth 100000 in
theorem times_any (A : Option Addr) (ca : Nat) (a : List Nat) (Bd : Option Addr) (cb : Nat) (b : List Nat) (w : World) {na nb : Nat} (hna : a.length = na) (hnb : b.length = nb) (ha : NR w A ca a) (hb : NR w Bd cb b) (la : na ≤ 1048576) (lb : nb ≤ 1048576) :
    Calls Try.prog 80 #[.slice A na ca, .slice Bd nb cb] w fun e w' => ∃ A' c', e = .returned (.slice A' (digs (val a * val b)).length c') ∧ NF w.heap.size w' A' c' (digs (val a * val b)) ∧ Below w.heap.size w w' := by
  have Ha := Lib.hid hna
  have Hb := Lib.hid hnb
  have Ra := Lib.hid ha
  have Rb := Lib.hid hb
  clear hna hnb ha hb
  go_enter Try.func80, Try.ntmps80
  go_wp2_with (at_make; refine wpList_make_nat _ rfl _ _ rfl (na + nb) rfl rfl (by omega) (by omega) (by omega) ?_; intro w1 hk1 hb1 hs1)
  have HK1 := Lib.hid hk1
  clear hk1
  go_loopw [19] (fun vi wr => ∃ (i : Nat) (l : List Nat), i ≤ na ∧ vi = .int .i64 i ∧ Hid (TimesO a b l i) ∧ Hid (l.length = na + nb) ∧ Hid (BlkN wr w.heap.size l) ∧ Below w.heap.size w wr) (fun vi _ => na - (intOf vi).toNat)
  case atStart => exact ⟨0, List.replicate (na + nb) 0, by omega, rfl, TimesO.start _ _ _, by simp [Hid], HK1.out, hb1⟩
  case round =>
    obtain ⟨i, l0, hi, rfl, HO, HL0, HB0, hbel0⟩ := hrel
    obtain ⟨wo, rfl⟩ : ∃ wo : World, wo = wr := ⟨_, rfl⟩
    by_cases hin : i < na
    · obtain ⟨b0, off, rfl, hb0, hc0⟩ := Ra.out.at_ (i := i) (by have := Ha.out; omega)
      have hca : wo.cell? ⟨b0, off + i, none⟩ = some (.int .u32 (dg a i : Nat)) := (hbel0.cell (p := ⟨b0, _, none⟩) hb0).trans hc0
      have hdi : (dg a i : Int) ≤ 4294967295 := by have := dg_lt Ra.out.dig i; omega
      clear hc0
      go_wp2_with fail
      go_loopw [8, 26] (fun vc vj wr => ∃ (j c : Nat) (l : List Nat), j ≤ nb ∧ vj = .int .i64 j ∧ vc = .int .u64 c ∧ Hid (TimesI a b l0 l i j c) ∧ Hid (l.length = na + nb) ∧ Hid (BlkN wr w.heap.size l) ∧ Below w.heap.size w wr) (fun _ vj _ => nb - (intOf vj).toNat)
      case atStart => exact ⟨0, 0, l0, by omega, rfl, rfl, TimesI.start HO.out, HL0.out, HB0.out, hbel0⟩
      case round =>
        obtain ⟨j, c, l, hj, rfl, rfl, HI, HL, HB, hbel⟩ := hrel
        have hc4 : (c : Int) ≤ 4294967295 := by have := HI.out.2.2.1; omega
        by_cases hjn : j < nb
        · obtain ⟨b1, of1, rfl, hb1', hc1⟩ := Rb.out.at_ (i := j) (by have := Hb.out; omega)
          have hcb : wr.cell? ⟨b1, of1 + j, none⟩ = some (.int .u32 (dg b j : Nat)) := (hbel.cell (p := ⟨b1, _, none⟩) hb1').trans hc1
          have hdj : (dg b j : Int) ≤ 4294967295 := by have := dg_lt Rb.out.dig j; omega
          have hcell := HB.out.cell (i := i + j) (by have := HL.out; omega)
          have hfr := HB.out.frozen (i + j)
          have hdl : (dg l (i + j) : Int) ≤ 4294967295 := by have := dg_lt HB.out.2 (i + j); omega
          obtain ⟨q1, q2, q3⟩ := HI.out.bound Ra.out.dig Rb.out.dig
          have q4 : (dg a i : Int) * dg b j ≤ 18446744065119617025 := by rw [← Int.natCast_mul]; omega
          have q5 : 0 ≤ (dg a i : Int) * dg b j := by rw [← Int.natCast_mul]; omega
          have q6 : (dg a i : Int) * dg b j + dg l (i + j) + c ≤ 18446744073709551615 := by rw [← Int.natCast_mul]; omega
          have HQ : Hid ((dg a i : Int) * dg b j + dg l (i + j) + c = ((dg a i * dg b j + dg l (i + j) + c : Nat) : Int)) := by unfold Hid; rw [← Int.natCast_mul]; omega
          have HQ3 := Lib.hid q3
          have HS := Lib.hid (HI.out.step Ra.out.dig Rb.out.dig (by have := HL.out; omega))
          have HBS := Lib.hid (HB.out.set (i + j) (x := (dg a i * dg b j + dg l (i + j) + c) % 4294967296) (by omega))
          clear q1 q2 q3 hc1
          go_wp2_with fail
          refine (halves_any _ _ HQ.out (by have := HQ3.out; omega)).mono ?_
          rintro e w2 ⟨rfl, rfl⟩
          go_wp2_with fail
          go_roundw
          case rel => exact ⟨j + 1, _, _, by omega, by go_num, rfl, HS.out, by have := HL.out; simp [Hid, this], HBS.out, hbel.setCell (Nat.le_refl _) _⟩
          case measure => simp [intOf]; omega
        · obtain rfl : j = nb := by omega
          have hcell := HB.out.cell (i := i + j) (by have := HL.out; omega)
          have hfr := HB.out.frozen (i + j)
          have HF := Lib.hid (TimesI.fin HO.out (by have := HI.out; rw [Hb.out]; exact this) (by have := HL.out; have := Hb.out; omega))
          have HBS := Lib.hid (HB.out.set (i + j) (x := c) HI.out.2.2.1)
          go_wp2_with fail
          go_roundw
          case rel => exact ⟨i + 1, l.set (i + j) c, by omega, by go_num, by have := HF.out; rw [Hb.out] at this; exact this, by have := HL.out; simp [Hid, this], HBS.out, hbel.setCell (Nat.le_refl _) _⟩
          case measure => simp [intOf]; omega
    · obtain rfl : i = na := by omega
      have HV := Lib.hid (TimesO.fin (a := a) (b := b) (l := l0) (by have := HO.out; rw [Ha.out]; exact this) (by have := HL0.out; have := Ha.out; have := Hb.out; omega))
      go_wp2_with fail
      have hnf := HB0.out.nf (B := w.heap.size) (c := i + nb) (Nat.le_refl _) (by have := HL0.out; omega) (by omega) (by have := HL0.out; omega)
      refine (trim_any _ _ l0 _ HL0.out hnf.1).mono ?_
      rintro e w2 ⟨rfl, rfl⟩
      go_wp2_with fail
      go_ret
      rw [HV.out]
      exact ⟨_, _, rfl, by have := hnf.trim; rwa [HV.out] at this, hbel0⟩
set_option maxHeartbeats 2000000 in
set_option maxRecDepth 100000 in
theorem refTimes_any (A : Option Addr) (ca : Nat) (a : List Nat) (Bd : Option Addr) (cb : Nat) (b : List Nat) (w : World) {na nb : Nat} (hna : a.length = na) (hnb : b.length = nb) (ha : NR w A ca a) (hb : NR w Bd cb b) (la : na ≤ 1048576) (lb : nb ≤ 1048576) :
    Calls Try.prog 83 #[.slice A na ca, .slice Bd nb cb] w fun e w' => ∃ A' c', e = .returned (.slice A' (digs (val a * val b)).length c') ∧ NF w.heap.size w' A' c' (digs (val a * val b)) ∧ Below w.heap.size w w' := by
  have Ha := Lib.hid hna
  have Hb := Lib.hid hnb
  have Ra := Lib.hid ha
  have Rb := Lib.hid hb
  clear hna hnb ha hb
  go_enter Try.func83, Try.ntmps83
  go_wp2_with (at_make; refine wpList_make_nat _ rfl _ _ rfl (na + nb) rfl rfl (by omega) (by omega) (by omega) ?_; intro w1 hk1 hb1 hs1)
  have HK1 := Lib.hid hk1
  clear hk1
  go_loopw [6] (fun vi wr => ∃ (i : Nat) (l : List Nat), i ≤ na ∧ vi = .int .i64 i ∧ Hid (TimesO a b l i) ∧ Hid (l.length = na + nb) ∧ Hid (BlkN wr w.heap.size l) ∧ Below w.heap.size w wr) (fun vi _ => na - (intOf vi).toNat)
  case atStart => exact ⟨0, List.replicate (na + nb) 0, by omega, rfl, TimesO.start _ _ _, by simp [Hid], HK1.out, hb1⟩
  case round =>
    obtain ⟨i, l0, hi, rfl, HO, HL0, HB0, hbel0⟩ := hrel
    obtain ⟨wo, rfl⟩ : ∃ wo : World, wo = wr := ⟨_, rfl⟩
    by_cases hin : i < na
    · have hdi : (dg a i : Int) ≤ 4294967295 := by have := dg_lt Ra.out.dig i; omega
      go_wp2_with fail
      go_loopw [7, 8] (fun vc vj wr => ∃ (j c : Nat) (l : List Nat), j ≤ nb ∧ vj = .int .i64 j ∧ vc = .int .u64 c ∧ Hid (TimesI a b l0 l i j c) ∧ Hid (l.length = na + nb) ∧ Hid (BlkN wr w.heap.size l) ∧ Below w.heap.size w wr) (fun _ vj _ => nb - (intOf vj).toNat)
      case atStart => exact ⟨0, 0, l0, by omega, rfl, rfl, TimesI.start HO.out, HL0.out, HB0.out, hbel0⟩
      case round =>
        obtain ⟨j, c, l, hj, rfl, rfl, HI, HL, HB, hbel⟩ := hrel
        have hc4 : (c : Int) ≤ 4294967295 := by have := HI.out.2.2.1; omega
        by_cases hjn : j < nb
        · have hdj : (dg b j : Int) ≤ 4294967295 := by have := dg_lt Rb.out.dig j; omega
          have hcell := HB.out.cell (i := i + j) (by have := HL.out; omega)
          have hfr := HB.out.frozen (i + j)
          have hdl : (dg l (i + j) : Int) ≤ 4294967295 := by have := dg_lt HB.out.2 (i + j); omega
          obtain ⟨q1, q2, q3⟩ := HI.out.bound Ra.out.dig Rb.out.dig
          have q4 : (dg a i : Int) * dg b j ≤ 18446744065119617025 := by rw [← Int.natCast_mul]; omega
          have q5 : 0 ≤ (dg a i : Int) * dg b j := by rw [← Int.natCast_mul]; omega
          have q7 : (dg l (i + j) : Int) + (dg a i : Int) * dg b j ≤ 18446744069414584320 := by rw [← Int.natCast_mul]; omega
          have q6 : (dg l (i + j) : Int) + (dg a i : Int) * dg b j + c ≤ 18446744073709551615 := by rw [← Int.natCast_mul]; omega
          have HQ : Hid ((dg l (i + j) : Int) + (dg a i : Int) * dg b j + c = ((dg a i * dg b j + dg l (i + j) + c : Nat) : Int)) := by unfold Hid; rw [← Int.natCast_mul]; omega
          have HQ3 := Lib.hid q3
          have HS := Lib.hid (HI.out.step Ra.out.dig Rb.out.dig (by have := HL.out; omega))
          have HBS := Lib.hid (HB.out.set (i + j) (x := (dg a i * dg b j + dg l (i + j) + c) % 4294967296) (by omega))
          have R1 := Lib.hid (Ra.out.below hbel)
          have R2 := Lib.hid (Rb.out.below hbel)
          clear q1 q2 q3
          go_wp2_with fail
          have v1 : IntKind.i64.wrap ((i : Int) + j) = (i : Int) + j := IntWalk.i64_in _ (by omega)
          have v2 : 0 ≤ (i : Int) + j := by omega
          have v3 : ((i : Int) + j).toNat = i + j := by omega
          have v4 : (i : Int) + j < (na : Int) + nb := by omega
          have v5 : IntKind.u64.wrap ((dg a i : Int) * dg b j) = (dg a i : Int) * dg b j := IntWalk.u64_in _ (by omega)
          have v6 : IntKind.u64.wrap ((dg l (i + j) : Int) + (dg a i : Int) * dg b j) = (dg l (i + j) : Int) + (dg a i : Int) * dg b j := IntWalk.u64_in _ (by omega)
          have v7 : IntKind.u64.wrap ((dg l (i + j) : Int) + (dg a i : Int) * dg b j + c) = (dg l (i + j) : Int) + (dg a i : Int) * dg b j + c := IntWalk.u64_in _ (by omega)
          have v8 : IntKind.u64.wrap (dg l (i + j) : Int) = (dg l (i + j) : Int) := IntWalk.u64_in _ (by omega)
          have hi2 : i ≤ 4611686018427387904 := by omega
          have hj2 : j ≤ 4611686018427387904 := by omega
          have HI2 := Lib.hid hi2
          have HJ2 := Lib.hid hj2
          clear hi2 hj2
          go_quiet ((first | (go_at_call_of 113 na; exact Calls.quiet_of_same (Calls_flip (refAt_any _ _ a i _ Ha.out (R1.out.drewN _) HI2.out))) | (go_at_call_of 113 nb; exact Calls.quiet_of_same (Calls_flip (refAt_any _ _ b j _ Hb.out (R2.out.drewN _) HJ2.out)))))
          clear v1 v3 v5 v6 v7 v8
          rw [HQ.out]
          obtain ⟨x, hx⟩ : ∃ x : Nat, dg a i * dg b j + dg l (i + j) + c = x := ⟨_, rfl⟩
          rw [hx] at HQ3 HS HBS ⊢
          have hx2 : (x : Int) ≤ 18446744073709551615 := by have := HQ3.out; omega
          have e1 : Hid (Value.int .u32 ((x % 4294967296 : Nat) : Int) = Value.int .u32 ((x : Int) % 4294967296)) := int_cong (by omega)
          have HBS2 : Hid (BlkN (wr.setCell ⟨w.heap.size, i + j, none⟩ (.int .u32 ((x : Int) % 4294967296))) w.heap.size (l.set (i + j) (x % 4294967296))) := by rw [Hid, ← e1.out]; exact HBS.out
          clear hx
          go_wp2_with fail
          go_roundw
          case rel => exact ⟨j + 1, x / 4294967296, _, by omega, by go_num, int_cong (by omega), HS.out, by have := HL.out; simp [Hid, this], HBS2.out, below_drewN (hbel.setCell (Nat.le_refl _) _) _⟩
          case measure => simp [intOf]; omega
        · obtain rfl : j = nb := by omega
          have hcell := HB.out.cell (i := i + j) (by have := HL.out; omega)
          have hfr := HB.out.frozen (i + j)
          have HF := Lib.hid (TimesI.fin HO.out (by have := HI.out; rw [Hb.out]; exact this) (by have := HL.out; have := Hb.out; omega))
          have HBS := Lib.hid (HB.out.set (i + j) (x := c) HI.out.2.2.1)
          go_wp2_with fail
          go_roundw
          case rel => exact ⟨i + 1, l.set (i + j) c, by omega, by go_num, by have := HF.out; rw [Hb.out] at this; exact this, by have := HL.out; simp [Hid, this], HBS.out, hbel.setCell (Nat.le_refl _) _⟩
          case measure => simp [intOf]; omega
    · obtain rfl : i = na := by omega
      have HV := Lib.hid (TimesO.fin (a := a) (b := b) (l := l0) (by have := HO.out; rw [Ha.out]; exact this) (by have := HL0.out; have := Ha.out; have := Hb.out; omega))
      go_wp2_with fail
      have hnf := HB0.out.nf (B := w.heap.size) (c := i + nb) (Nat.le_refl _) (by have := HL0.out; omega) (by omega) (by have := HL0.out; omega)
      refine (refTrim_any _ _ l0 _ HL0.out hnf.1).mono ?_
      rintro e w2 ⟨A', c', rfl, hnf2, hb2⟩
      rw [HV.out] at hnf2 ⊢
      go_wp2_with fail
      go_ret
      exact ⟨_, _, rfl, hnf2.mono hbel0.size, hbel0.trans (hb2.mono hbel0.size)⟩
end Go.Proofs.Ytphaojdfeojpeaa
