/-
  The reference's round keys, and Encrypt, Derive, Number.
-/
import Derived.Test.YtinpiodfpnbllaaRefSpeck2
namespace Go.Proofs.Ytinpiodfpnbllaa
open Go.RowKit
set_option linter.unusedVariables false
attribute [local go_sem] run_storeCells_key

theorem quiet_n {P : Program} {f : FuncId} {args : Array Value} {w : World} {n : Nat} {v : Value}
    (h : Calls P f args (w.drewN n) fun e w' => e = .returned v ∧ ∃ m, w' = (w.drewN n).drewN m) : Calls P f args (w.drewN n) fun e w'' => e = .returned v ∧ ∃ m, w'' = w.drewN m :=
  h.mono fun _ _ ⟨he, m, hm⟩ => ⟨he, n + m, by rw [hm, World.drewN_drewN]⟩
def cellsU (l : List UInt64) : List Value := l.map fun x => .int .u64 (x.toNat : Int)
theorem cellsU_append (a b : List UInt64) : cellsU (a ++ b) = cellsU a ++ cellsU b := by simp [cellsU]
theorem u64_info : (Try.prog.info? 109).map (fun i => (i.zero, i.size, i.bytes)) = some (some (.int .u64 0), 1, 8) := by kernel_rfl
/-- The round keys up to number i. -/
def ksL (k : W2) (i : Nat) : List UInt64 := (List.range (i + 1)).map fun j => (ksS k j).2
theorem ksL_length (k : W2) (i : Nat) : (ksL k i).length = i + 1 := by simp [ksL]
theorem ksL_succ (k : W2) (i : Nat) : ksL k (i + 1) = ksL k i ++ [(ksS k (i + 1)).2] := by rw [ksL, List.range_succ]; simp [ksL]
theorem rnd_fst (i : Nat) (x y : UInt64) (hi : i < 64) : bits .xor .u64 (IntKind.u64.wrap ((y.toNat : Int) + ((rotr8 x).toNat : Int))) (i : Int) = ((rnd (UInt64.ofNat i) (x, y)).1.toNat : Int) := by
  have e : (i : Int) = ((UInt64.ofNat i).toNat : Int) := by rw [UInt64.toNat_ofNat', Nat.mod_eq_of_lt (by omega)]
  rw [u64_add, e, u64_xor, UInt64.add_comm]
  rfl
theorem rnd_fstm (i : Nat) (x y : UInt64) (hi : i < 64) : bits .xor .u64 (((y.toNat : Int) + ((rotr8 x).toNat : Int)) % 18446744073709551616) (i : Int) = ((rnd (UInt64.ofNat i) (x, y)).1.toNat : Int) := by
  rw [← rnd_fst i x y hi, u64_addm, u64_add]
theorem rnd_fstk (k x y : UInt64) : bits .xor .u64 (IntKind.u64.wrap (((rotr8 x).toNat : Int) + (y.toNat : Int))) (k.toNat : Int) = ((rnd k (x, y)).1.toNat : Int) := by
  rw [u64_add, u64_xor]
  rfl
theorem rnd_fstkm (k x y : UInt64) : bits .xor .u64 ((((rotr8 x).toNat : Int) + (y.toNat : Int)) % 18446744073709551616) (k.toNat : Int) = ((rnd k (x, y)).1.toNat : Int) := by
  rw [← rnd_fstk k x y, u64_addm, u64_add]
theorem rnd_snd (k x y : UInt64) : bits .xor .u64 ((rotl3 y).toNat : Int) ((rnd k (x, y)).1.toNat : Int) = ((rnd k (x, y)).2.toNat : Int) := by
  rw [u64_xor]
  rfl

set_option maxHeartbeats 1000000 in
set_option maxRecDepth 100000 in
theorem refRoundKeys_any (k : List UInt8) (w : World) (hk : k.length = 16) : Calls Try.prog 116 #[.agg (cellsB k).toArray] w fun e w' => ∃ A c, e = .returned (.slice A 32 c) ∧ Rd w' 1 A c 32 (cellsU (ksL (wds k) 31)) ∧ Below w.heap.size w w' := by
  have HK := Lib.hid hk
  have hkl : (cellsB k).length = 16 := by rw [cellsB_length, hk]
  clear hk
  go_enter Try.func116, Try.ntmps116
  go_wp2_with (go_at_call 115; rw [fold16B k HK.out]; refine (refWords_key k _ HK.out).mono ?_; rintro e w1 ⟨rfl, hb1⟩)
  have hb01 : Below w.heap.size w w1 := (alloc_bel w _).trans (hb1.mono (alloc_bel w (.cells (cellsB k).toArray 23)).size)
  go_loopw [3, 4, 5, 6] (fun vl va vo vi wr => ∃ (i : Nat) (A : Option Addr) (c : Nat), i ≤ 31 ∧ vi = .int .i64 (i : Int) ∧ vl = .int .u64 ((ksS (wds k) i).1.toNat : Int) ∧ va = .int .u64 ((ksS (wds k) i).2.toNat : Int) ∧ vo = .slice A (i + 1) c ∧
      Hid (wr.ownsRow w.heap.size 109 1 (.slice A (i + 1) c) (i + 1) (cellsU (ksL (wds k) i))) ∧ Below w.heap.size w wr) (fun _ _ _ vi _ => 31 - (intOf vi).toNat)
  case atStart =>
    refine ⟨0, some ⟨w1.heap.size, 0, none⟩, 1, by omega, rfl, rfl, rfl, rfl, ?_, hb01.alloc hb01.size _⟩
    exact World.ownsRow_lit (e := 109) (size := 1) w1 (cellsU (ksL (wds k) 0)).toArray 1 hb01.size (by simp [maxLen]) (by simp [cellsU, ksL])
  case round =>
    obtain ⟨i, A, c, hi, rfl, rfl, rfl, rfl, HO, hbel⟩ := hrel
    by_cases hlt : i < 31
    · have hii : (i : Int) < 31 := by omega
      have HKS : Hid (ksS (wds k) (i + 1) = rnd (UInt64.ofNat i) (ksS (wds k) i)) := rfl
      have HLS := Lib.hid (ksL_succ (wds k) i)
      obtain ⟨⟨x, y⟩, hp⟩ : ∃ p, ksS (wds k) i = p := ⟨_, rfl⟩
      rw [hp] at HKS ⊢
      have hx := u64_bd x
      have hy := u64_bd y
      have E1 := Lib.hid (rnd_fst i x y (by omega))
      have E1m := Lib.hid (rnd_fstm i x y (by omega))
      have E2 := Lib.hid (rnd_snd (UInt64.ofNat i) x y)
      obtain ⟨i0, hi0, hz0, hz1, hz2⟩ := info_parts u64_info
      have HI0 := Lib.hid hi0
      have HI1 := Lib.hid hz0
      have HI2 := Lib.hid hz1
      have HI3 := Lib.hid hz2
      clear hp hi0 hz0 hz1 hz2
      go_wp2_with (first
        | (go_at_call 117; refine (refRotr_8 x _).mono ?_; rintro e w2 ⟨rfl, n2, rfl⟩)
        | (go_at_call 118; refine (refRotl_3 y _).mono ?_; rintro e w3 ⟨rfl, n3, rfl⟩; first | rw [E1.out] | rw [E1m.out])
        | (at_builtin; rw [E2.out]; refine wpList_append_src _ rfl (.tmp 29) (.tmp 31) 172 rfl w.heap.size 109 i0 (.int .u64 0) 1 8 Try.underlying172 HI0.out HI1.out HI2.out HI3.out rfl (by omega) A (i + 1) c (cellsU (ksL (wds k) i)) rfl (ownsRow_below HO.out ((below_drewN (Below.refl _ wr) _).alloc (Nat.le_refl _) _))
            (some ⟨wr.heap.size, 0, none⟩) 1 1 [.int .u64 ((rnd (UInt64.ofNat i) (x, y)).2.toNat : Int)] rfl (Src.one _ _ _) (by simp [Value.oneCell']) (by simp only [maxLen]; omega) (by omega) (by have := hbel.size; simp; omega) ?_; intro A2 c2 w5 hon5 hg5 _; have HON5 := Lib.hid hon5; have hb5 := grown_below ((below_drewN hbel (n2 + n3)).alloc hbel.size _) (ownsRow_below HO.out ((below_drewN (Below.refl _ wr) (n2 + n3)).alloc (Nat.le_refl _) _)) hg5 (by have := hbel.size; simp; omega) (Nat.le_refl _); clear hon5 hg5))
      go_roundw
      case rel => exact ⟨i + 1, A2, c2, by omega, by go_num, by rw [HKS.out], by rw [HKS.out], rfl, by rw [HLS.out, cellsU_append, HKS.out]; exact HON5.out, hb5⟩
      case measure => simp [intOf]; omega
    · obtain rfl : i = 31 := by omega
      go_wp2_with fail
      go_ret
      exact ⟨A, c, rfl, Rd.of_own HO.out (by omega), hbel⟩
end Go.Proofs.Ytinpiodfpnbllaa
