/-
  plus and the reference's Plus.
-/
import Derived.Test.YtphaojdfeojpeaaNatWalks2
namespace Go.Proofs.Ytphaojdfeojpeaa
open Go.RowKit
set_option linter.unusedVariables false

/-- The greater one, as max computes it. -/
theorem max_is (a b : Nat) : ∃ n : Nat, a ≤ n ∧ b ≤ n ∧ (n = a ∨ n = b) ∧ (if a < b then (b : Int) else (a : Int)) = (n : Int) := by
  by_cases h : a < b
  · exact ⟨b, by omega, by omega, by omega, by rw [if_pos h]⟩
  · exact ⟨a, by omega, by omega, by omega, by rw [if_neg h]⟩

set_option maxHeartbeats 1000000 in
set_option maxRecDepth 100000 in
theorem plus_any (A : Option Addr) (ca : Nat) (a : List Nat) (Bd : Option Addr) (cb : Nat) (b : List Nat) (w : World) {na nb : Nat} (hna : a.length = na) (hnb : b.length = nb) (ha : NR w A ca a) (hb : NR w Bd cb b) (la : na ≤ 1048576) (lb : nb ≤ 1048576) :
    Calls Try.prog 79 #[.slice A na ca, .slice Bd nb cb] w fun e w' => ∃ A' c', e = .returned (.slice A' (digs (val a + val b)).length c') ∧ NF w.heap.size w' A' c' (digs (val a + val b)) ∧ Below w.heap.size w w' := by
  obtain ⟨n, hn1, hn2, hn3, hmx⟩ := max_is na nb
  have ln : n ≤ 1048576 := by omega
  have Hn := Lib.hid hn3
  clear hn3
  have Ha := Lib.hid hna
  have Hb := Lib.hid hnb
  have Ra := Lib.hid ha
  have Rb := Lib.hid hb
  clear hna hnb ha hb
  go_enter Try.func79, Try.ntmps79
  go_wp2_with (at_make; refine wpList_make_nat _ rfl _ _ rfl (n + 1) rfl rfl (by omega) (by omega) (by omega) ?_; intro w1 hk1 hb1 hs1)
  have HK1 := Lib.hid hk1
  clear hk1
  go_loopw [7, 18] (fun vc vk wr => ∃ (k c : Nat) (l : List Nat), k ≤ n ∧ vk = .int .i64 k ∧ vc = .int .u64 c ∧ c ≤ 1 ∧ Hid (PlusI a b l k c) ∧ Hid (l.length = n + 1) ∧ Hid (BlkN wr w.heap.size l) ∧ Below w.heap.size w wr) (fun _ vk _ => n - (intOf vk).toNat)
  case atStart => exact ⟨0, 0, List.replicate (n + 1) 0, by omega, rfl, rfl, by omega, PlusI.start _ _ _ (Dig.replicate _), by simp [Hid], HK1.out, hb1⟩
  case round =>
    obtain ⟨k, c, l, hk, rfl, rfl, hc, HI, HL, HB, hbel⟩ := hrel
    by_cases hkn : k < n
    · have hcell := HB.out.cell (i := k) (by have := HL.out; omega)
      have hfr := HB.out.frozen k
      obtain ⟨s1, s2⟩ := HI.out.sum Ra.out.dig Rb.out.dig
      have s3 : (dg a k : Int) + (dg b k : Int) ≤ 8589934590 := by omega
      have s4 : (dg a k : Int) + (dg b k : Int) + c ≤ 8589934591 := by omega
      clear s1 s2
      have HS := Lib.hid (HI.out.step Ra.out.dig Rb.out.dig (by have := HL.out; omega))
      have HBS := Lib.hid (HB.out.set k (x := (dg a k + dg b k + c) % 4294967296) (by omega))
      go_wp2_with fail
      refine (digit_any _ _ a k _ Ha.out (Ra.out.below hbel) (by omega)).mono ?_
      rintro e w2 ⟨rfl, rfl⟩
      go_wp2_with fail
      refine (digit_any _ _ b k _ Hb.out (Rb.out.below hbel) (by omega)).mono ?_
      rintro e w2 ⟨rfl, rfl⟩
      go_wp2_with fail
      refine (halves_any (dg a k + dg b k + c) _ (by omega) (by omega)).mono ?_
      rintro e w2 ⟨rfl, rfl⟩
      go_wp2_with fail
      go_roundw
      case rel => exact ⟨k + 1, _, _, by omega, by go_num, rfl, HS.out.2.1, HS.out, by have := HL.out; simp [Hid, this], HBS.out, hbel.setCell (Nat.le_refl _) _⟩
      case measure => simp [intOf]; omega
    · obtain rfl : k = n := by omega
      have hcell := HB.out.cell (i := k) (by have := HL.out; omega)
      have hfr := HB.out.frozen k
      have HF := Lib.hid (HI.out.fin (n := k) (by have := Ha.out; omega) (by have := Hb.out; omega) HL.out)
      have HBS := Lib.hid (HB.out.set k (x := c) (by omega))
      go_wp2_with fail
      have hnf := HBS.out.nf (B := w.heap.size) (c := k + 1) (Nat.le_refl _) (by have := HL.out; simp [this]) (by omega) (by have := HL.out; simp [this]; omega)
      refine (trim_any _ _ (l.set k c) _ (by have := HL.out; simp [this]) hnf.1).mono ?_
      rintro e w2 ⟨rfl, rfl⟩
      go_wp2_with fail
      go_ret
      rw [HF.out.1]
      exact ⟨_, _, rfl, by have := hnf.trim; rwa [HF.out.1] at this, hbel.setCell (Nat.le_refl _) _⟩

set_option maxHeartbeats 1000000 in
set_option maxRecDepth 100000 in
theorem refPlus_any (A : Option Addr) (ca : Nat) (a : List Nat) (Bd : Option Addr) (cb : Nat) (b : List Nat) (w : World) {na nb : Nat} (hna : a.length = na) (hnb : b.length = nb) (ha : NR w A ca a) (hb : NR w Bd cb b) (la : na ≤ 1048576) (lb : nb ≤ 1048576) :
    Calls Try.prog 82 #[.slice A na ca, .slice Bd nb cb] w fun e w' => ∃ A' c', e = .returned (.slice A' (digs (val a + val b)).length c') ∧ NF w.heap.size w' A' c' (digs (val a + val b)) ∧ Below w.heap.size w w' := by
  obtain ⟨n, hn1, hn2, hn3, hmx⟩ := max_is na nb
  have ln : n ≤ 1048576 := by omega
  have Hn := Lib.hid hn3
  have Ha := Lib.hid hna
  have Hb := Lib.hid hnb
  have Ra := Lib.hid ha
  have Rb := Lib.hid hb
  clear hna hnb ha hb hn3
  go_enter Try.func82, Try.ntmps82
  go_wp2_with fail
  go_loopw [5, 6, 7] (fun vo vc vk wr => ∃ (k c : Nat) (X : Option Addr) (d : Nat) (l : List Nat), k ≤ n + 1 ∧ vk = .int .i64 k ∧ vc = .int .u64 c ∧ vo = .slice X k d ∧ c ≤ 1 ∧ Hid (PlusI a b l k c) ∧ Hid (l.length = k) ∧ Hid (ON w.heap.size wr X d l) ∧ Below w.heap.size w wr) (fun _ _ vk _ => n + 1 - (intOf vk).toNat)
  case atStart => exact ⟨0, 0, none, 0, [], by omega, rfl, rfl, rfl, by omega, PlusI.start _ _ _ Dig.nil, rfl, ON.nil _ _, Below.refl _ _⟩
  case round =>
    obtain ⟨k, c, X, d, l, hk, rfl, rfl, rfl, hc, HI, HL, HB, hbel⟩ := hrel
    have hsz := hbel.size
    by_cases hkn : k ≤ n
    · obtain ⟨s1, s2⟩ := HI.out.sum Ra.out.dig Rb.out.dig
      have s3 : (dg a k : Int) + (dg b k : Int) ≤ 8589934590 := by omega
      have s4 : (dg a k : Int) + (dg b k : Int) + c ≤ 8589934591 := by omega
      clear s1 s2
      have HS := Lib.hid (HI.out.snoc Ra.out.dig Rb.out.dig HL.out)
      have hm : decide ((k : Int) ≤ n) = true := by simp; omega
      go_wp2_with fail
      refine (refAt_any _ _ a k _ Ha.out (Ra.out.below hbel) (by omega)).mono ?_
      rintro e w2 ⟨rfl, rfl⟩
      go_wp2_with fail
      refine (refAt_any _ _ b k _ Hb.out (Rb.out.below hbel) (by omega)).mono ?_
      rintro e w2 ⟨rfl, rfl⟩
      generalize hx : dg a k + dg b k + c = x at *
      have hxi : (dg a k : Int) + (dg b k : Int) + c = x := by omega
      have hx2 : (x : Int) ≤ 8589934591 := by omega
      have e1 : Hid (((x % 4294967296 : Nat) : Int) = (x : Int) % 4294967296) := by unfold Hid; omega
      have HX := Lib.hid hx
      clear hx
      go_wp2_with (at_builtin; go_loud (refine wpList_append_nat _ rfl (.tmp 27) (.tmp 31) rfl w.heap.size X k d l HL.out rfl (HB.out.below ((Below.refl _ _).alloc (Nat.le_refl _) _)) (some ⟨_, 0, none⟩) 1 1 [x % 4294967296] rfl rfl (by have := Src.one wr (Value.int .u32 ((x % 4294967296 : Nat) : Int)) 85; rw [e1.out] at this; simp only [cellsN, List.map_cons, List.map_nil]; rw [e1.out]; exact this) (Dig.one (by omega)) (by omega) (by simp <;> omega) ?_); intro A' c' w' hon hbel2 hg; clear hg)
      go_roundw
      case rel =>
        exact ⟨k + 1, x / 4294967296, A', c', l ++ [x % 4294967296], by omega, by go_num, int_cong (by omega), rfl, HS.out.2.1, HS.out, by have := HL.out; simp [Hid, this], hon, (hbel.alloc hbel.size _).trans (hbel2.mono (by simp <;> omega))⟩
      case measure => simp [intOf]; omega
    · obtain rfl : k = n + 1 := by omega
      have hm : decide (((n + 1 : Nat) : Int) ≤ n) = false := by simp; omega
      have HV := Lib.hid (HI.out.all Ra.out.dig Rb.out.dig (by have := Ha.out; omega) (by have := Hb.out; omega) HL.out)
      go_wp2_with fail
      refine (refTrim_any _ _ l _ HL.out HB.out.nf.1).mono ?_
      rintro e w2 ⟨A', c', rfl, hnf, hb2⟩
      rw [HV.out] at hnf ⊢
      go_wp2_with fail
      go_ret
      exact ⟨A', c', rfl, hnf.mono hsz, hbel.trans (hb2.mono hsz)⟩
end Go.Proofs.Ytphaojdfeojpeaa
