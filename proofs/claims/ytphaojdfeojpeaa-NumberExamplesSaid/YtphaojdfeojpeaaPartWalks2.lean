/-
  What parted is made of: unshifted, Clone, Div32.
-/
import Derived.Test.YtphaojdfeojpeaaPartWalks1
namespace Go.Proofs.Ytphaojdfeojpeaa
open Go.RowKit
set_option linter.unusedVariables false

theorem u64_or_hi {x y : Nat} (hy : y < 4294967296) : x * 4294967296 ||| y = x * 4294967296 + y := by
  have := Nat.two_pow_add_eq_or_of_lt (i := 32) (b := y) hy x
  rw [show (2 : Nat) ^ 32 = 4294967296 from rfl] at this
  rw [Nat.mul_comm x, ← this]
theorem u64_hilo {x y : Nat} (hx : x < 4294967296) (hy : y < 4294967296) : bits BinOp.or IntKind.u64 (((x : Nat) : Int) * 4294967296) ((y : Nat) : Int) = ((x * 4294967296 + y : Nat) : Int) := by
  rw [show (x : Int) * 4294967296 = ((x * 4294967296 : Nat) : Int) from by omega, u64_or_nat _ _ (by omega) (by omega), u64_or_hi hy]

set_option maxHeartbeats 1000000 in
theorem unshifted_any (A : Option Addr) (ca : Nat) (a : List Nat) (s : Nat) (w : World) {na : Nat} (hna : a.length = na) (ha : NR w A ca a) (hs : s ≤ 31) :
    Calls Try.prog 112 #[.slice A na ca, .int .u64 s] w fun e w' => ∃ A' c', e = .returned (.slice A' (digs (val a / 2 ^ s)).length c') ∧ NF w.heap.size w' A' c' (digs (val a / 2 ^ s)) ∧ Below w.heap.size w w' := by
  have la : na ≤ 35184372088832 := by have := ha.len; omega
  have Ha := Lib.hid hna
  have Ra := Lib.hid ha
  have hs2 : (s : Int) ≤ 31 := by omega
  have HS0 := Lib.hid hs
  clear hna ha hs
  go_enter Try.func112, Try.ntmps112
  go_wp2_with (at_make; refine wpList_make_nat _ rfl _ _ rfl na rfl rfl (by omega) (by omega) (by omega) ?_; intro w1 hk1 hb1 hs1)
  have HK1 := Lib.hid hk1
  clear hk1
  go_loopw [12] (fun vk wr => ∃ (k : Nat) (l : List Nat), k ≤ na ∧ vk = .int .i64 k ∧ Hid (UnI a l s k) ∧ Hid (l.length = na) ∧ Hid (BlkN wr w.heap.size l) ∧ Below w.heap.size w wr) (fun vk _ => na - (intOf vk).toNat)
  case atStart => exact ⟨0, List.replicate na 0, by omega, rfl, by have := UnI.start a s; rw [Ha.out] at this; exact this, by simp [Hid], HK1.out, hb1⟩
  case round =>
    obtain ⟨k, l, hk, rfl, HI, HL, HB, hbel⟩ := hrel
    by_cases hkn : k < na
    · have hcell := HB.out.cell (i := k) (by have := HL.out; omega)
      have hfr := HB.out.frozen k
      have d1 : (dg a (k + 1) : Int) ≤ 4294967295 := by have := dg_lt Ra.out.dig (k + 1); omega
      have d0 : (dg a k : Int) ≤ 4294967295 := by have := dg_lt Ra.out.dig k; omega
      have HS := Lib.hid (HI.out.step HS0.out Ra.out.dig (by have := Ha.out; omega))
      go_wp2_with fail
      refine (digit_any _ _ a (k + 1) _ Ha.out (Ra.out.below hbel) (by omega)).mono ?_
      rintro e w2 ⟨rfl, rfl⟩
      go_wp2_with fail
      refine (digit_any _ _ a k _ Ha.out (Ra.out.below hbel) (by omega)).mono ?_
      rintro e w2 ⟨rfl, rfl⟩
      have HO := Lib.hid (u64_hilo (dg_lt Ra.out.dig (k + 1)) (dg_lt Ra.out.dig k))
      generalize hx : dg a (k + 1) * 4294967296 + dg a k = x at *
      have HX : Hid (x < 18446744073709551616) := by have := dg_lt Ra.out.dig (k + 1); have := dg_lt Ra.out.dig k; unfold Hid; omega
      have HV : Hid (Value.int .u32 ((x : Int) / 2 ^ s % 4294967296) = .int .u32 ((x / 2 ^ s % 4294967296 : Nat) : Int)) := int_cong (by simp)
      have HBS := Lib.hid (HB.out.set k (x := x / 2 ^ s % 4294967296) (by omega))
      rw [← HV.out] at HBS
      clear hx
      go_wp2_with fail
      rw [HO.out]
      go_roundw
      case rel => exact ⟨k + 1, _, by omega, by go_num, HS.out, by have := HL.out; simp [Hid, this], HBS.out, hbel.setCell (Nat.le_refl _) _⟩
      case measure => simp [intOf]; omega
    · obtain rfl : k = na := by omega
      have HF := Lib.hid (UnI.fin (u := a) (by have := HI.out; rw [Ha.out]; exact this) Ra.out.dig)
      have hnf := HB.out.nf (B := w.heap.size) (c := k) (Nat.le_refl _) (by have := HL.out; omega) (by omega) (by have := HL.out; omega)
      go_wp2_with fail
      refine (trim_any _ _ l _ HL.out hnf.1).mono ?_
      rintro e w2 ⟨rfl, rfl⟩
      go_wp2_with fail
      go_ret
      rw [HF.out]
      exact ⟨_, _, rfl, by have := hnf.trim; rwa [HF.out] at this, hbel⟩

set_option maxHeartbeats 1000000 in
theorem Div32_any (hi lo y : Nat) (w : World) (hlo : lo < 4294967296) (hy : y < 4294967296) (h : hi < y) {X Y Z : Int} (eX : X = hi) (eY : Y = lo) (eZ : Z = y) :
    Calls Try.prog 107 #[.int .u32 X, .int .u32 Y, .int .u32 Z] w fun e w' => e = .returned (.tuple #[.int .u32 ((hi * 4294967296 + lo) / y : Nat), .int .u32 ((hi * 4294967296 + lo) % y : Nat)]) ∧ w.drew = w' := by
  subst eX eY eZ
  have h1 : (hi : Int) ≤ 4294967295 := by omega
  have h2 : (lo : Int) ≤ 4294967295 := by omega
  have h3 : (y : Int) ≤ 4294967295 := by omega
  have h4 : ((y : Int) != 0) = true := by simp; omega
  have h4' : (y != 0) = true := by simp; omega
  have h5 : decide (y ≤ hi) = false := by simp; omega
  have h6 : (y : Int) ≠ 0 := by omega
  have HO := Lib.hid (u64_hilo (x := hi) (y := lo) (by omega) hlo)
  generalize hx : hi * 4294967296 + lo = x at *
  have HX : Hid (x < y * 4294967296) := by unfold Hid; omega
  have HX2 : Hid (x < 18446744073709551616) := by unfold Hid; omega
  have HY := Lib.hid hy
  clear hlo hy h hx
  go_enter Try.func107, Try.ntmps107
  go_wp2_with fail
  rw [HO.out]
  go_region
  go_wp2_with fail
  go_ret2
  have hq : x / y < 4294967296 := by rw [Nat.div_lt_iff_lt_mul (by have := HX.out; omega), Nat.mul_comm]; exact HX.out
  have hr : x % y < 4294967296 := by have := Nat.mod_lt x (y := y) (by have := HX.out; omega); have := HY.out; omega
  refine ⟨tuple_int2 ?_ ?_, rfl⟩
  · rw [quo_castk]; generalize x / y = q at *; rw [IntWalk.u64_in _ (by omega)]; omega
  · rw [emod_cast]; omega
set_option maxHeartbeats 1000000 in
/-- slices.Clone. -/
@[local go_sem] theorem eql_nat (w : World) (a : Option Addr) (n c : Nat) : (binOp .eql 41 (.slice a n c) (.slice none 0 0)).run Try.prog w = .ok (.bool a.isNone) w := by
  exact Lib.run_eql_slice_nil (P := Try.prog) w 41 85 a n c 0 0 Try.underlying41
theorem Clone_any (A : Option Addr) (c : Nat) (l : List Nat) (w : World) {n : Nat} (hn : l.length = n) (h : NR w A c l) :
    Calls Try.prog 105 #[.slice A n c] w fun e w' => ∃ A' c', e = .returned (.slice A' n c') ∧ NF w.heap.size w' A' c' l ∧ Below w.heap.size w w' := by
  have hlen : n ≤ 35184372088832 := by have := h.len; omega
  have HN := Lib.hid hn
  cases A with
  | none =>
    have hl : l = [] := by
      apply Classical.byContradiction
      intro hne
      obtain ⟨b, off, e, _⟩ := h.2.2.2 hne
      cases e
    have hn0 : n = 0 := by rw [← hn, hl]; rfl
    clear hn HN hlen h
    subst hn0 hl
    go_enter Try.func105, Try.ntmps105
    go_wp2
    go_ret
    exact ⟨none, 0, rfl, NF.nil _ _, Below.refl _ _⟩
  | some p =>
    clear hn
    go_enter Try.func105, Try.ntmps105
    go_wp2_with (at_builtin; go_loud (refine wpList_append_nat _ rfl (.tmp 5) (.tmp 6) rfl w.heap.size (some ⟨w.heap.size, 0, none⟩) 0 0 [] rfl rfl ⟨World.ownsRow_lit w #[] 0 (Nat.le_refl _) (by simp [maxLen]) (by simp), Dig.nil, by simp⟩ (some p) n c l HN.out rfl (HN.out ▸ (h.alloc _).src) h.dig (by omega) (by simp) ?_); intro A' c' w' hon hbel hg; clear hg)
    go_ret
    exact ⟨A', c', ret_slice (by simp), hon.nf, ((Below.refl _ _).alloc (Nat.le_refl _) _).trans hbel⟩
end Go.Proofs.Ytphaojdfeojpeaa
