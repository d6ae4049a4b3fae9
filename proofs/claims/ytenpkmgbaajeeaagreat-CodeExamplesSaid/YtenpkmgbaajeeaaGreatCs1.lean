/-
  Lemmas and contracts, joined.
-/
import Derived.Laws.BitsAllLaws
import Derived.Laws.BitsLemmas
import Derived.StillTailTactics
import Derived.RangeFuncNested
import Derived.RangeFuncBound
import Derived.RangeFuncCalls
import Derived.RangeFuncLeaves
import Derived.RangeFuncBox
import Derived.Shelf.Abstract
import Derived.Shelf.RegionOpen
import Derived.OwnWalkIn
import Derived.TacticsInMore
import Derived.LoopNIn
import Derived.LoopIn
import Derived.Deep.RegionHeld3
import Derived.Laws.IdiomStrings
import Derived.Test.YtenpkmgbaajeeaaGreatCw1
set_option linter.unusedSimpArgs false
set_option linter.unusedVariables false
set_option linter.unnecessarySimpa false
/- Words of 64 bits: how the walk spells their operations; rotations, as the program and the reference make them. -/
namespace Go.Proofs.YtenpkmgbaajeeaaGreat
open Go.RowKit
set_option linter.unusedVariables false

theorem wrap_u64_nat (n : Nat) : IntKind.u64.wrap (n : Int) = ((n % 18446744073709551616 : Nat) : Int) := by
  rw [IntKind.wrap_u64]; omega
theorem u64_bd (x : UInt64) : (x.toNat : Int) ≤ 18446744073709551615 := by have := x.toNat_lt; omega
theorem u64_wrap (x : UInt64) : IntKind.u64.wrap (x.toNat : Int) = (x.toNat : Int) := by
  rw [wrap_u64_nat]; have := x.toNat_lt; omega
theorem u64_add (a b : UInt64) : IntKind.u64.wrap ((a.toNat : Int) + (b.toNat : Int)) = ((a + b).toNat : Int) := by
  rw [show (a.toNat : Int) + b.toNat = ((a.toNat + b.toNat : Nat) : Int) from by omega, wrap_u64_nat, UInt64.toNat_add]
theorem u64_addm (a b : UInt64) : ((a.toNat : Int) + (b.toNat : Int)) % 18446744073709551616 = ((a + b).toNat : Int) := by
  rw [UInt64.toNat_add]; omega
theorem u64_sub (a b : UInt64) : IntKind.u64.wrap ((a.toNat : Int) - (b.toNat : Int)) = ((a - b).toNat : Int) := by
  have h1 := a.toNat_lt
  have h2 := b.toNat_lt
  rw [IntKind.wrap_u64, UInt64.toNat_sub]
  omega
theorem u64_mul256 (a : UInt64) : IntKind.u64.wrap (256 * (a.toNat : Int)) = ((256 * a).toNat : Int) := by
  rw [show 256 * (a.toNat : Int) = ((256 * a.toNat : Nat) : Int) from by omega, wrap_u64_nat, UInt64.toNat_mul]
  rfl
theorem u64_or (a b : UInt64) : bits .or .u64 (a.toNat : Int) (b.toNat : Int) = ((a ||| b).toNat : Int) := by
  rw [u64_or_nat _ _ a.toNat_lt b.toNat_lt, UInt64.toNat_or]
theorem u64_xor (a b : UInt64) : bits .xor .u64 (a.toNat : Int) (b.toNat : Int) = ((a ^^^ b).toNat : Int) := by
  rw [u64_xor_nat _ _ a.toNat_lt b.toNat_lt, UInt64.toNat_xor]
theorem u64_shl (x : UInt64) (k : Nat) (hk : k < 64) : IntKind.u64.wrap ((x.toNat : Int) * (2 ^ k : Nat)) = ((x <<< UInt64.ofNat k).toNat : Int) := by
  rw [show (x.toNat : Int) * (2 ^ k : Nat) = ((x.toNat * 2 ^ k : Nat) : Int) from (Int.natCast_mul _ _).symm, wrap_u64_nat, UInt64.toNat_shiftLeft, Nat.shiftLeft_eq]
  simp [UInt64.toNat_ofNat', Nat.mod_eq_of_lt (show k < 18446744073709551616 by omega), Nat.mod_eq_of_lt hk]
theorem u64_shr (x : UInt64) (k : Nat) (hk : k < 64) : (x.toNat : Int) / (2 ^ k : Nat) = ((x >>> UInt64.ofNat k).toNat : Int) := by
  rw [toNat_shr x k hk]; exact (Int.natCast_ediv _ _).symm
theorem u8_wrap64 (x : UInt64) : IntKind.u8.wrap (x.toNat : Int) = ((x.toUInt8).toNat : Int) := by
  rw [IntKind.wrap_u8, UInt64.toNat_toUInt8]; omega
theorem u64_of_u8 (c : UInt8) : IntKind.u64.wrap (c.toNat : Int) = ((c.toUInt64).toNat : Int) := by
  rw [wrap_u64_nat, UInt8.toNat_toUInt64]; have := c.toNat_lt; omega
theorem u64_shl8 (x : UInt64) : IntKind.u64.wrap ((x.toNat : Int) * 256) = ((x <<< 8).toNat : Int) := u64_shl x 8 (by omega)
theorem u64_shl56 (x : UInt64) : IntKind.u64.wrap ((x.toNat : Int) * 72057594037927936) = ((x <<< 56).toNat : Int) := u64_shl x 56 (by omega)
theorem u64_shl3 (x : UInt64) : IntKind.u64.wrap ((x.toNat : Int) * 8) = ((x <<< 3).toNat : Int) := u64_shl x 3 (by omega)
theorem u64_shl61 (x : UInt64) : IntKind.u64.wrap ((x.toNat : Int) * 2305843009213693952) = ((x <<< 61).toNat : Int) := u64_shl x 61 (by omega)
theorem u64_shr8 (x : UInt64) : (x.toNat : Int) / (256 : Int) = ((x >>> 8).toNat : Int) := u64_shr x 8 (by omega)
theorem u64_shr56 (x : UInt64) : (x.toNat : Int) / (72057594037927936 : Int) = ((x >>> 56).toNat : Int) := u64_shr x 56 (by omega)
theorem u64_shr3 (x : UInt64) : (x.toNat : Int) / (8 : Int) = ((x >>> 3).toNat : Int) := u64_shr x 3 (by omega)
theorem u64_shr61 (x : UInt64) : (x.toNat : Int) / (2305843009213693952 : Int) = ((x >>> 61).toNat : Int) := u64_shr x 61 (by omega)

theorem ret_u64 {a b : Int} (h : a = b) : Ending.returned (.int .u64 a) = .returned (.int .u64 b) := by rw [h]

/-- A rotation by k bits to the left, as both make it. -/
theorem rot_r8 (x : UInt64) : bits .or .u64 (IntKind.u64.wrap ((x.toNat : Int) * 72057594037927936)) ((x.toNat : Int) / 256) = ((rotr8 x).toNat : Int) := by
  rw [u64_shl56, u64_shr8, u64_or, rotr8, UInt64.or_comm]
theorem rot_l3 (x : UInt64) : bits .or .u64 (IntKind.u64.wrap ((x.toNat : Int) * 8)) ((x.toNat : Int) / 2305843009213693952) = ((rotl3 x).toNat : Int) := by
  rw [u64_shl3, u64_shr61, u64_or, rotl3]
theorem rot_l8 (x : UInt64) : bits .or .u64 (IntKind.u64.wrap ((x.toNat : Int) * 256)) ((x.toNat : Int) / 72057594037927936) = ((rotl8 x).toNat : Int) := by
  rw [u64_shl8, u64_shr56, u64_or, rotl8]
theorem rot_r3 (x : UInt64) : bits .or .u64 (IntKind.u64.wrap ((x.toNat : Int) * 2305843009213693952)) ((x.toNat : Int) / 8) = ((rotr3 x).toNat : Int) := by
  rw [u64_shl61, u64_shr3, u64_or, rotr3, UInt64.or_comm]
theorem rot_r8' (x : UInt64) : bits .or .u64 ((x.toNat : Int) / 256) (IntKind.u64.wrap ((x.toNat : Int) * 72057594037927936)) = ((rotr8 x).toNat : Int) := by
  rw [u64_shl56, u64_shr8, u64_or, rotr8]
theorem rot_l3' (x : UInt64) : bits .or .u64 ((x.toNat : Int) / 2305843009213693952) (IntKind.u64.wrap ((x.toNat : Int) * 8)) = ((rotl3 x).toNat : Int) := by
  rw [u64_shl3, u64_shr61, u64_or, rotl3, UInt64.or_comm]
theorem rot_l8' (x : UInt64) : bits .or .u64 ((x.toNat : Int) / 72057594037927936) (IntKind.u64.wrap ((x.toNat : Int) * 256)) = ((rotl8 x).toNat : Int) := by
  rw [u64_shl8, u64_shr56, u64_or, rotl8, UInt64.or_comm]
theorem rot_r3' (x : UInt64) : bits .or .u64 ((x.toNat : Int) / 8) (IntKind.u64.wrap ((x.toNat : Int) * 2305843009213693952)) = ((rotr3 x).toNat : Int) := by
  rw [u64_shl61, u64_shr3, u64_or, rotr3]

set_option maxHeartbeats 400000 in
theorem RotateLeft64_r8 (x : UInt64) (w : World) : Calls Tryz.prog 187 #[.int .u64 (x.toNat : Int), .int .i64 (-8)] w fun e w' => e = .returned (.int .u64 ((rotr8 x).toNat : Int)) ∧ w = w' := by
  have hx := u64_bd x
  have hk : bits BinOp.and IntKind.u64 (IntKind.u64.wrap (-8)) 63 = 56 := by kernel_rfl
  go_enter Tryz.func187, Tryz.ntmps187
  go_wp2_with fail
  go_ret
  exact ⟨ret_u64 (rot_r8 x), rfl⟩
set_option maxHeartbeats 400000 in
theorem RotateLeft64_l3 (x : UInt64) (w : World) : Calls Tryz.prog 187 #[.int .u64 (x.toNat : Int), .int .i64 3] w fun e w' => e = .returned (.int .u64 ((rotl3 x).toNat : Int)) ∧ w = w' := by
  have hx := u64_bd x
  have hk : bits BinOp.and IntKind.u64 3 63 = 3 := by kernel_rfl
  go_enter Tryz.func187, Tryz.ntmps187
  go_wp2_with fail
  go_ret
  exact ⟨ret_u64 (rot_l3 x), rfl⟩

set_option maxHeartbeats 400000 in
theorem refRotr_8 (x : UInt64) (w : World) : Calls Tryz.prog 175 #[.int .u64 (x.toNat : Int), .int .i64 8] w fun e w' => e = .returned (.int .u64 ((rotr8 x).toNat : Int)) ∧ ∃ n, w' = w.drewN n := by
  have hx := u64_bd x
  go_enter Tryz.func175, Tryz.ntmps175
  go_wp2_with fail
  go_quiet (fail)
  go_wp2_with fail
  go_ret
  exact ⟨ret_u64 (rot_r8' x), _, rfl⟩
set_option maxHeartbeats 400000 in
theorem refRotr_61 (x : UInt64) (w : World) : Calls Tryz.prog 175 #[.int .u64 (x.toNat : Int), .int .i64 61] w fun e w' => e = .returned (.int .u64 ((rotl3 x).toNat : Int)) ∧ ∃ n, w' = w.drewN n := by
  have hx := u64_bd x
  go_enter Tryz.func175, Tryz.ntmps175
  go_wp2_with fail
  go_quiet (fail)
  go_wp2_with fail
  go_ret
  exact ⟨ret_u64 (rot_l3' x), _, rfl⟩
set_option maxHeartbeats 400000 in
theorem refRotl_3 (x : UInt64) (w : World) : Calls Tryz.prog 176 #[.int .u64 (x.toNat : Int), .int .i64 3] w fun e w' => e = .returned (.int .u64 ((rotl3 x).toNat : Int)) ∧ ∃ n, w' = w.drewN n := by
  go_enter Tryz.func176, Tryz.ntmps176
  go_wp2_with (go_at_call 175; refine (refRotr_61 x _).mono ?_; rintro e w1 ⟨rfl, n1, rfl⟩)
  go_ret
  exact ⟨rfl, _, rfl⟩
end Go.Proofs.YtenpkmgbaajeeaaGreat

/- The block cipher of the program: words, blocks, rounds. -/
namespace Go.Proofs.YtenpkmgbaajeeaaGreat
open Go.RowKit
set_option linter.unusedVariables false

theorem wd_take_succ {l : List UInt8} {k : Nat} (h : k < l.length) : wd (l.take (k + 1)) = (wd (l.take k) <<< 8 ||| (l.getD k 0).toUInt64) := by
  rw [List.take_succ_eq_append_getElem h, wd_snoc, shl8_or]
  simp [List.getD, List.getElem?_eq_getElem h]
/-- Two words as a value. -/
def pairC (p : W2) : Array Value := #[.int .u64 (p.1.toNat : Int), .int .u64 (p.2.toNat : Int)]

theorem shl8_or_u8 (x : UInt64) (c : UInt8) : bits .or .u64 (IntKind.u64.wrap ((x.toNat : Int) * 256)) (c.toNat : Int) = ((x <<< 8 ||| c.toUInt64).toNat : Int) := by
  rw [u64_shl8, show (c.toNat : Int) = (c.toUInt64.toNat : Int) from by rw [UInt8.toNat_toUInt64], u64_or]
theorem pair_cong {a b c d : Int} (h1 : a = b) (h2 : c = d) : (#[.int .u64 a, .int .u64 c] : Array Value) = #[.int .u64 b, .int .u64 d] := by rw [h1, h2]
set_option maxHeartbeats 1000000 in
theorem wordsOf_any (b : List UInt8) (w : World) (hb : b.length = 16) : Calls Tryz.prog 155 #[.agg (cellsB b).toArray] w fun e w' => e = .returned (.agg #[.int .u64 ((wds b).1.toNat : Int), .int .u64 ((wds b).2.toNat : Int)]) ∧ Below w.heap.size w w' := by
  have HB := Lib.hid hb
  clear hb
  go_enter Tryz.func155, Tryz.ntmps155
  go_wp2_with fail
  go_loopw [5] (fun vk wr => ∃ (k : Nat) (x y : UInt64), k ≤ 8 ∧ vk = .int .i64 k ∧ Hid (x = wd (b.take k) ∧ y = wd ((b.drop 8).take k)) ∧ Blk wr w.heap.size 23 (cellsB b).toArray ∧
      Blk wr (w.heap.size + 1) 193 #[.int .u64 0, .int .u64 0] ∧ Blk wr (w.heap.size + 1 + 1) 193 #[.int .u64 (x.toNat : Int), .int .u64 (y.toNat : Int)] ∧ Below w.heap.size w wr) (fun vk _ => 8 - (intOf vk).toNat)
  case atStart => exact ⟨0, 0, 0, by omega, rfl, ⟨rfl, rfl⟩, blk_a0 _ _ _ _ _, blk_a1 _ _ _ _ _, blk_a2 _ _ _ _ _, alloc3_bel _ _ _ _⟩
  case round =>
    obtain ⟨k, x, y, hk, rfl, HX, hB1, hB2, hB3, hbel⟩ := hrel
    by_cases hk8 : k < 8
    · have c0 := hB3.cell 0
      have c1 := hB3.cell 1
      have f0 := hB3.frozen 0
      have f1 := hB3.frozen 1
      simp only [List.getElem?_toArray, List.getElem?_cons_zero, List.getElem?_cons_succ] at c0 c1
      have d0 := (hB1.cell k).trans (bytes_get b k (by have := HB.out; omega))
      have d1 := (hB1.cell (8 + k)).trans (bytes_get b (8 + k) (by have := HB.out; omega))
      generalize hv0 : b.getD k 0 = v0 at *
      generalize hv1 : b.getD (8 + k) 0 = v1 at *
      have HV := Lib.hid (And.intro hv0 hv1)
      clear hv0 hv1
      have hbx := u64_bd x
      have hby := u64_bd y
      have hki : (k : Int) < 8 := by omega
      have hv0' : (v0.toNat : Int) ≤ 255 := by have := v0.toNat_lt; omega
      have hv1' : (v1.toNat : Int) ≤ 255 := by have := v1.toNat_lt; omega
      go_wp2_with fail
      go_region
      have e1 := shl8_or_u8 x v0
      have e2 := shl8_or_u8 y v1
      rw [e1, e2]
      have hB4 := Lib.hid ((hB3.set_ 0 (.int .u64 ((x <<< 8 ||| v0.toUInt64).toNat : Int))).set_ 1 (.int .u64 ((y <<< 8 ||| v1.toUInt64).toNat : Int)))
      clear e1 e2 c0 c1 f0 f1 d0 d1
      go_wp2_with fail
      go_roundw
      case rel =>
        refine ⟨k + 1, x <<< 8 ||| v0.toUInt64, y <<< 8 ||| v1.toUInt64, by omega, by go_num, ?_, (((hB1.far (p := ⟨w.heap.size + 1 + 1, 0, none⟩) (by simp; omega) _).far (p := ⟨w.heap.size + 1 + 1, 1, none⟩) (by simp; omega) _)).drew,
          ((hB2.far (p := ⟨w.heap.size + 1 + 1, 0, none⟩) (by simp) _).far (p := ⟨w.heap.size + 1 + 1, 1, none⟩) (by simp) _).drew, Blk.drew (by simpa using hB4.out), ((hbel.setCell (p := ⟨w.heap.size + 1 + 1, 0, none⟩) (by simp; omega) _).setCell (p := ⟨w.heap.size + 1 + 1, 1, none⟩) (by simp; omega) _).drew⟩
        obtain ⟨h1, h2⟩ := HX.out
        obtain ⟨g1, g2⟩ := HV.out
        refine ⟨?_, ?_⟩
        · rw [wd_take_succ (by have := HB.out; omega), h1, g1]
        · rw [wd_take_succ (by have := HB.out; simp; omega), h2, ← g2]
          congr 2
          simp [List.getD, List.getElem?_drop]
      case measure => simp [intOf]; omega
    · obtain rfl : k = 8 := by omega
      have c0 := hB3.cell 0
      have c1 := hB3.cell 1
      have r0 := hB2.cell 0
      have r1 := hB2.cell 1
      have f0 := hB2.frozen 0
      have f1 := hB2.frozen 1
      simp only [List.getElem?_toArray, List.getElem?_cons_zero, List.getElem?_cons_succ] at c0 c1 r0 r1
      have HE : Hid (x = (wds b).1 ∧ y = (wds b).2) := by
        obtain ⟨h1, h2⟩ := HX.out
        refine ⟨h1, ?_⟩
        rw [h2, List.take_of_length_le (by have := HB.out; simp; omega)]
        rfl
      go_wp2_with fail
      have hB5 : Blk ((wr.setCell ⟨w.heap.size + 1, 0, none⟩ (.int .u64 (x.toNat : Int))).setCell ⟨w.heap.size + 1, 1, none⟩ (.int .u64 (y.toNat : Int))) (w.heap.size + 1) 193 #[.int .u64 (x.toNat : Int), .int .u64 (y.toNat : Int)] := by
        simpa using (hB2.set_ 0 (.int .u64 (x.toNat : Int))).set_ 1 (.int .u64 (y.toNat : Int))
      refine bodyPost_ret (results_cell_row rfl _ _ (w.heap.size + 1) _ _ (0, 0) _ rfl hB5 Tryz.underlying193 rfl (by kernel_rfl)) rfl ⟨?_, ?_⟩
      · rw [HE.out.1, HE.out.2]
      · exact (hbel.setCell (p := ⟨w.heap.size + 1, 0, none⟩) (by simp) _).setCell (p := ⟨w.heap.size + 1, 1, none⟩) (by simp) _

set_option maxHeartbeats 1000000 in
theorem round_any (p : W2) (k : UInt64) (w : World) : Calls Tryz.prog 181 #[.agg #[.int .u64 (p.1.toNat : Int), .int .u64 (p.2.toNat : Int)], .int .u64 (k.toNat : Int)] w fun e w' => e = .returned (.agg #[.int .u64 ((rnd k p).1.toNat : Int), .int .u64 ((rnd k p).2.toNat : Int)]) ∧ Below w.heap.size w w' := by
  obtain ⟨x, y⟩ := p
  dsimp only
  have hx := u64_bd x
  have hy := u64_bd y
  have hk := u64_bd k
  have HE : Hid (((rotr8 x + y) ^^^ k) = (rnd k (x, y)).1 ∧ (rotl3 y ^^^ ((rotr8 x + y) ^^^ k)) = (rnd k (x, y)).2) := ⟨rfl, rfl⟩
  go_enter Tryz.func181, Tryz.ntmps181
  go_wp2_with fail
  go_quiet ((go_at_call 187; exact quiet_left' (RotateLeft64_r8 x _)))
  go_wp2_with (go_at_call 187; refine (RotateLeft64_l3 y _).mono ?_; rintro e w1 ⟨rfl, rfl⟩)
  simp only [u64_add, u64_xor]
  rw [HE.out.2, HE.out.1]
  exact bodyPost_ret (v := .agg #[.int .u64 ((rnd k (x, y)).1.toNat : Int), .int .u64 ((rnd k (x, y)).2.toNat : Int)]) (by simp [results, Tryz.results181, go_sem]) rfl
    ⟨rfl, ((below_drewN ((alloc_bel _ _).alloc (by simp) _) _).setCell (p := ⟨w.heap.size + 1, 0, none⟩) (by simp) _).setCell (p := ⟨w.heap.size + 1, 1, none⟩) (by simp) _⟩

/-- The block after k rounds. -/
def stB (p : W2) (k : Nat) : List UInt8 := (List.range 16).map fun j => if j < 8 then (if j < k then (by8 p.1).getD j 0 else 0) else (if j - 8 < k then (by8 p.2).getD (j - 8) 0 else 0)
theorem stB_step (p : W2) (k : Nat) (hk : k < 8) : ((stB p k).set k ((by8 p.1).getD k 0)).set (8 + k) ((by8 p.2).getD k 0) = stB p (k + 1) := by
  match k, hk with
  | 0, _ => rfl
  | 1, _ => rfl
  | 2, _ => rfl
  | 3, _ => rfl
  | 4, _ => rfl
  | 5, _ => rfl
  | 6, _ => rfl
  | 7, _ => rfl
theorem stB_fin (p : W2) : stB p 8 = blk p := rfl
theorem stB_length (p : W2) (k : Nat) : (stB p k).length = 16 := by simp [stB]
theorem by8_getD (x : UInt64) (k : Nat) (hk : k < 8) : (by8 x).getD k 0 = (x >>> UInt64.ofNat (56 - 8 * k)).toUInt8 := by
  match k, hk with
  | 0, _ => rfl
  | 1, _ => rfl
  | 2, _ => rfl
  | 3, _ => rfl
  | 4, _ => rfl
  | 5, _ => rfl
  | 6, _ => rfl
  | 7, _ =>
    show x.toUInt8 = (x >>> 0).toUInt8
    simp
theorem byte_at (x : UInt64) (m : Nat) (hm : m < 64) : (x.toNat : Int) / 2 ^ m % 256 = (((x >>> UInt64.ofNat m).toUInt8).toNat : Int) := by
  rw [← u8_wrap64, ← u64_shr x m hm, IntKind.wrap_u8]
  congr 2
theorem bytes_set (l : List UInt8) (i : Nat) (x : UInt8) : (cellsB l).toArray.setIfInBounds i (.int .u8 (x.toNat : Int)) = (cellsB (l.set i x)).toArray := by
  rw [cellsB_set]; simp
theorem zero16 : (#[.int .u8 0, .int .u8 0, .int .u8 0, .int .u8 0, .int .u8 0, .int .u8 0, .int .u8 0, .int .u8 0, .int .u8 0, .int .u8 0, .int .u8 0, .int .u8 0, .int .u8 0, .int .u8 0, .int .u8 0, .int .u8 0] : Array Value) = (cellsB zeroK).toArray := rfl
theorem under_key : Tryz.prog.underlying 23 = some (.array 16 5) := Tryz.underlying23
theorem info_key : (Tryz.prog.info? 23).map (·.size) = some 16 := by kernel_rfl
theorem cellsB_sizes (a b : List UInt8) (ha : a.length = 16) (hb : b.length = 16) : (cellsB a).toArray.size = (cellsB b).toArray.size := by simp [cellsB, ha, hb]
theorem cellsB_all (l : List UInt8) : (cellsB l).toArray.all (·.oneCell') = true := by
  rw [Array.all_eq_true_iff_forall_mem]
  intro x hx
  exact cellsB_one l x (by simpa using hx)
theorem cellsB_size (l : List UInt8) (h : l.length = 16) : (Tryz.prog.info? 23).map (·.size) = some (cellsB l).toArray.size := by rw [info_key]; simp [cellsB, h]

set_option maxHeartbeats 1000000 in
theorem block_any (p : W2) (w : World) : Calls Tryz.prog 182 #[.agg #[.int .u64 (p.1.toNat : Int), .int .u64 (p.2.toNat : Int)]] w fun e w' => e = .returned (.agg (cellsB (blk p)).toArray) ∧ Below w.heap.size w w' := by
  have HZ := Lib.hid zero16
  go_enter Tryz.func182, Tryz.ntmps182
  go_wp2_with fail
  rw [HZ.out]
  go_loopw [5] (fun vk wr => ∃ k : Nat, k ≤ 8 ∧ vk = .int .i64 k ∧ Blk wr w.heap.size 193 #[.int .u64 (p.1.toNat : Int), .int .u64 (p.2.toNat : Int)] ∧
      Blk wr (w.heap.size + 1) 23 (cellsB zeroK).toArray ∧ Blk wr (w.heap.size + 1 + 1) 23 (cellsB (stB p k)).toArray ∧ Below w.heap.size w wr) (fun vk _ => 8 - (intOf vk).toNat)
  case atStart => exact ⟨0, by omega, rfl, blk_a0 _ _ _ _ _, blk_a1 _ _ _ _ _, blk_a2 _ _ _ _ _, alloc3_bel _ _ _ _⟩
  case round =>
    obtain ⟨k, hk, rfl, hB1, hB2, hB3, hbel⟩ := hrel
    by_cases hk8 : k < 8
    · obtain ⟨m, hm⟩ : ∃ m, 56 - 8 * k = m := ⟨_, rfl⟩
      have hmi : (56 : Int) - 8 * k = m := by omega
      have hm0 : (m : Int) ≤ 56 := by omega
      have c0 := hB1.cell 0
      have c1 := hB1.cell 1
      simp only [List.getElem?_toArray, List.getElem?_cons_zero, List.getElem?_cons_succ] at c0 c1
      have d0 := (hB3.cell k).trans (bytes_get _ k (by rw [stB_length]; omega))
      have d1 := (hB3.cell (8 + k)).trans (bytes_get _ (8 + k) (by rw [stB_length]; omega))
      have f0 := hB3.frozen k
      have f1 := hB3.frozen (8 + k)
      have hx := u64_bd p.1
      have hy := u64_bd p.2
      have hki : (k : Int) < 8 := by omega
      have HS := Lib.hid (stB_step p k hk8)
      have HY1 : Hid ((p.1.toNat : Int) / 2 ^ m % 256 = (((by8 p.1).getD k 0).toNat : Int)) := by unfold Hid; rw [byte_at _ _ (by omega), by8_getD _ _ hk8, hm]
      have HY2 : Hid ((p.2.toNat : Int) / 2 ^ m % 256 = (((by8 p.2).getD k 0).toNat : Int)) := by unfold Hid; rw [byte_at _ _ (by omega), by8_getD _ _ hk8, hm]
      clear hm
      go_wp2_with fail
      go_region
      rw [HY1.out, HY2.out]
      have hB4 := (hB3.set_ k (.int .u8 (((by8 p.1).getD k 0).toNat : Int))).set_ (8 + k) (.int .u8 (((by8 p.2).getD k 0).toNat : Int))
      rw [bytes_set, bytes_set, HS.out] at hB4
      have HB4 := Lib.hid hB4
      clear hB4 c0 c1 d0 d1 f0 f1
      go_wp2_with fail
      go_roundw
      case rel => exact ⟨k + 1, by omega, by go_num, ((hB1.far (p := ⟨w.heap.size + 1 + 1, k, none⟩) (by simp; omega) _).far (p := ⟨w.heap.size + 1 + 1, 8 + k, none⟩) (by simp; omega) _).drew,
          ((hB2.far (p := ⟨w.heap.size + 1 + 1, k, none⟩) (by simp) _).far (p := ⟨w.heap.size + 1 + 1, 8 + k, none⟩) (by simp) _).drew, HB4.out.drew, ((hbel.setCell (p := ⟨w.heap.size + 1 + 1, k, none⟩) (by simp; omega) _).setCell (p := ⟨w.heap.size + 1 + 1, 8 + k, none⟩) (by simp; omega) _).drew⟩
      case measure => simp [intOf]; omega
    · obtain rfl : k = 8 := by omega
      rw [stB_fin] at hB3
      have hL : (blk p).length = 16 := rfl
      go_wp2_with (first
        | (refine wpList_load_row rfl 23 (.tmp 3) rfl (w.heap.size + 1 + 1) rfl 23 (cellsB (blk p)).toArray (0, 0) _ hB3 under_key rfl (cellsB_size _ hL) ?_)
        | (refine wpList_store_row rfl 23 (.tmp 2) (.tmp 28) rfl (w.heap.size + 1) (cellsB (blk p)).toArray rfl rfl 23 (cellsB zeroK).toArray hB2 (cellsB_size _ hL) (cellsB_sizes _ _ zeroK_length hL) (cellsB_all _) ?_))
      have hB5 := hB2.setRow (cellsB (blk p)).toArray
      refine bodyPost_ret (results_cell_row rfl _ _ (w.heap.size + 1) _ _ (0, 0) _ rfl hB5 under_key rfl (cellsB_size _ hL)) rfl ⟨rfl, below_setRow hbel (by omega) _⟩
end Go.Proofs.YtenpkmgbaajeeaaGreat

/- A range over a function whose iterator keeps a variable of its own in memory, the body being left in no way but its end: the law, for whatever invariant of the caller's that speaks of what lay ahead of the loop. -/
namespace Go.Proofs.YtenpkmgbaajeeaaGreat
open Go.RowKit Go.Shelf
set_option linter.unusedVariables false

/-- What holds through new blocks, and through writes to blocks from B on. -/
def HoldsFrom {β : Type} (B : Nat) (J : β → World → Prop) : Prop := ∀ s X Y row, J s X → X.grownBy Y row → (∀ r, row = some r → B ≤ r) → J s Y
theorem HoldsFrom.put {β : Type} {B : Nat} {J : β → World → Prop} (h : HoldsFrom B J) {s : β} {W : World} (hs : J s W) {l : Nat} (hl : B ≤ l) (o : Obj) : J s (W.putObj l o) :=
  h s W _ (some l) hs (grownBy_putObj' W l o) fun r e => by cases e; exact hl
theorem HoldsFrom.more {β : Type} {B : Nat} {J : β → World → Prop} (h : HoldsFrom B J) {s : β} {W : World} (hs : J s W) (o : Obj) : J s (W.alloc o) := h s W _ none hs (World.grownBy_alloc W o none) fun r e => by cases e
/-- What an iterator does: the elements of xs come, one by one. -/
def Brings {α : Type} (F : Fence) (n : Nat) (P : Program) (g : Nat) (lb : Array Value) (encs : α → Array Value) (Kp : World → World → Prop) (xs : List α) (w : World) : Prop :=
  ∀ (l : Nat) (J : List α → World → Prop) (W : World), Below w.heap.size w W → HoldsFrom W.heap.size J →
    (∀ pre x W1, J pre W1 → (∃ rest, xs = pre ++ x :: rest) → YieldAt F (n - 1) P l (encs x) W1 fun e W' => e = .returned (.bool true) ∧ J (pre ++ [x]) W' ∧ Kp W1 W') →
    J [] W → CallsIn F n P g (#[.func (.yield l) #[] #[]] ++ lb) W fun e W' => (∃ v, e = .returned v) ∧ J xs W'

def AtEnd (R : World → Prop) : Exit → Act → World → Prop
  | .normal, _, W => R W
  | _, _, _ => False

theorem wpIn_range_box {P : Program} {F : Fence} {n : Nat} {α : Type} {g : Operand} {ps : Array Tmp} {assign body : Code} {Q : Exit → Act → World → Prop} {a : Act} {w : World}
    (hro : F.round = none) (h1 : 1 ≤ n) {gf : Nat} {lb : Array Value} (hg : a.eval g = .func (.func gf) #[] lb) (hFg : F.fn gf) (eg : ∀ args w, (callFunc gf args).run P w = .ok (.enter gf args) w)
    {encs : α → Array Value} {Kp : World → World → Prop} {xs : List α} {w0 : World} (hseq : Brings F (n - 1) P gf lb encs Kp xs w0)
    (hKt : ∀ {X Y Z : World}, Kp X Y → Kp Y Z → Kp X Z) (hKb : ∀ (W : World) (l : Nat) (o o' : Obj), w.heap.size ≤ l → W.heap[l]? = some o → o.isCells = false → Kp W (W.putObj l o')) (hb0 : Below w0.heap.size w0 w) (hps : ∀ x, (encs x).size = ps.size)
    (I : List α → World → Prop) (hI : HoldsFrom w.heap.size I) (h0 : I [] w) (a₁ : α → Act)
    (hassign : ∀ (l : Nat) (x : α) (W : World) (K : Act → World → Prop), K (a₁ x) W →
      assign.wpIn (F.inRound l) (n - 1 - 1) P (Exit.then K (fun _ _ _ => False)) { tmps := (ps.zip (encs x)).foldl (fun t (p, v) => t.setIfInBounds p v) a.tmps, defers := [] } W)
    (hbody : ∀ (l : Nat) (pre : List α) (x : α) (W : World), I pre W → (∃ rest, xs = pre ++ x :: rest) → body.wpIn (F.inRound l) (n - 1 - 1) P (AtEnd fun W' => KeepsFrom w.heap.size W W' ∧ Kp W W' ∧ I (pre ++ [x]) W') (a₁ x) W)
    (hdone : ∀ (D : Nat) (W : World), w.heap.size ≤ D → I xs W → W.heap[D]? = some (.deferred (some [])) → Q .normal { a with defers := { target := .collected D, args := #[] } :: a.defers } W) :
    (Code.rangeFunc g ps assign body).wpIn F n P Q a w := by
  refine wpIn_rangeFunc fun fn hfn => ?_
  rw [hro]
  let rec_ : LoopState → Option Code → Loop := fun st pe => { state := st, pending := pe, fn := fn, tmps := a.tmps, params := ps, assign := assign, body := body, defers := w.heap.size }
  have s1 : ((w.alloc (.deferred (some []))).alloc (.loop (rec_ .ready none))).heap.size = w.heap.size + 1 + 1 := by simp
  generalize hW1 : (w.alloc (.deferred (some []))).alloc (.loop (rec_ .ready none)) = W1 at s1
  have hL1 : W1.heap[w.heap.size + 1]? = some (.loop (rec_ .ready none)) := by
    rw [← hW1]; have := World.alloc_heap_new (w.alloc (.deferred (some []))) (.loop (rec_ .ready none)); rwa [World.size_alloc] at this
  have hK1 : W1.heap[w.heap.size]? = some (.deferred (some [])) := by
    rw [← hW1]; exact (Below.heap_alloc _ _ _ (by simp)).trans (World.alloc_heap_new w _)
  have hI1 : I [] W1 := by rw [← hW1]; exact hI.more (hI.more h0 _) _
  have hb1 : Below w0.heap.size w0 W1 := by rw [← hW1]; exact hb0.trans ((alloc2_bel w _ _).mono hb0.size)
  refine ⟨w.heap.size + 1, [{ target := .collected w.heap.size, args := #[] }], W1, { target := .fn (.func gf) lb, args := #[.func (.yield (w.heap.size + 1)) #[] #[]] }, W1, gf, #[.func (.yield (w.heap.size + 1)) #[] #[]] ++ lb, W1, ?_, ?_, ?_, ?_, fun _ => h1, ?_⟩
  · rw [← hW1]; exact run_enterLoop_outer _ _ _ _ _
  · simp only [resolve, hg]
    simp [go_sem]
  · intro f' hf'; simp [Target.leads] at hf'; subst hf'; exact hFg
  · simp [invoke, go_sem, eg]
  · refine (hseq (w.heap.size + 1) (fun pre W => I pre W ∧ W.heap[w.heap.size + 1]? = some (.loop (rec_ .ready none)) ∧ W.heap[w.heap.size]? = some (.deferred (some []))) W1 hb1 ?_ ?_ ⟨hI1, hL1, hK1⟩).mono ?_
    · rintro s X Y row ⟨j1, j2, j3⟩ hgr hrow
      have lt : ∀ k o, k ≤ w.heap.size + 1 → X.heap[k]? = some o → Y.heap[k]? = some o := fun k o hk ho =>
        (hgr.block k (Array.getElem?_eq_some_iff.1 ho).1 (fun e => by have := hrow k e.symm; omega)).trans ho
      exact ⟨hI s X Y row j1 hgr (fun r e => by have := hrow r e; omega), lt _ _ (by omega) j2, lt _ _ (by omega) j3⟩
    · rintro pre x W ⟨hi, hl, hk⟩ hrest
      have hlt : w.heap.size + 1 < W.heap.size := (Array.getElem?_eq_some_iff.1 hl).1
      refine ⟨fn, _, assign, body, run_yield (P := P) (args := encs x) hl (hps x), roundIn_of_wpIn hfn (hassign _ x W _ ⟨_, run_beginRound hl rfl, ?_⟩)⟩
      have hl2 : (W.putObj (w.heap.size + 1) (.loop { rec_ .ready none with state := .busy })).heap[w.heap.size + 1]? = some (.loop { rec_ .ready none with state := .busy }) := World.putObj_heap_same hlt
      have hk2 : (W.putObj (w.heap.size + 1) (.loop { rec_ .ready none with state := .busy })).heap[w.heap.size]? = some (.deferred (some [])) := (World.putObj_heap_other (by omega)).trans hk
      refine wpIn_mono (hbody _ pre x _ (hI.put hi (by omega) _) hrest) ?_
      rintro e a3 W3 hp
      cases e with
      | normal =>
        obtain ⟨hk3, hkp3, hi3⟩ := hp
        have hl3 := hk3.same _ _ (by omega) hl2 rfl
        have hd3 := hk3.same _ _ (Nat.le_refl _) hk2 rfl
        exact ⟨_, _, run_endRound (P := P) none hl3, rfl, ⟨hI.put hi3 (by omega) _, World.putObj_heap_same (Array.getElem?_eq_some_iff.1 hl3).1, (World.putObj_heap_other (by omega)).trans hd3⟩,
          hKt (hKt (hKb _ _ _ _ (by omega) hl rfl) hkp3) (hKb _ _ _ _ (by omega) hl3 rfl)⟩
      | _ => exact hp.elim
    · rintro e W2 ⟨⟨v, rfl⟩, hi, hl, hk⟩
      exact ⟨none, _, run_endLoop (P := P) hl (by simp [rec_]), hdone _ _ (Nat.le_refl _) (hI.put hi (by omega) _) ((World.putObj_heap_other (by omega)).trans hk)⟩
end Go.Proofs.YtenpkmgbaajeeaaGreat

/- The round keys, as the iterator brings them. -/
namespace Go.Proofs.YtenpkmgbaajeeaaGreat
open Go.RowKit Go.Shelf
set_option linter.unusedVariables false
attribute [local go_sem] Oper.semAt_some

theorem round_nat (p : W2) (i : Nat) (hi : i < 32) (w : World) : Calls Tryz.prog 181 #[.agg #[.int .u64 (p.1.toNat : Int), .int .u64 (p.2.toNat : Int)], .int .u64 (i : Int)] w fun e w' => e = .returned (.agg #[.int .u64 ((rnd (UInt64.ofNat i) p).1.toNat : Int), .int .u64 ((rnd (UInt64.ofNat i) p).2.toNat : Int)]) ∧ Below w.heap.size w w' := by
  have e : ((UInt64.ofNat i).toNat : Int) = (i : Int) := by
    rw [UInt64.toNat_ofNat', Nat.mod_eq_of_lt (by omega)]
  have := round_any p (UInt64.ofNat i) w
  rw [e] at this
  exact this

/-- What a round keeps: cells from M on. -/
def KpM (M : Nat) (W W' : World) : Prop := ∀ k cs t fr, M ≤ k → W.heap[k]? = some (.cells cs t fr) → W'.heap[k]? = W.heap[k]?
theorem KpM.trans {M : Nat} {X Y Z : World} (h : KpM M X Y) (k : KpM M Y Z) : KpM M X Z := fun i cs t fr hi hx => by
  have h1 := h i cs t fr hi hx
  exact (k i cs t fr hi (h1.trans hx)).trans h1
theorem KpM.put {M : Nat} (W : World) (l : Nat) (o o' : Obj) (h : W.heap[l]? = some o) (ho : o.isCells = false) : KpM M W (W.putObj l o') := fun k cs t fr hk hx => by
  refine World.putObj_heap_other (fun e => ?_)
  subst e
  rw [h] at hx
  injection hx with hx
  rw [hx] at ho
  simp [Obj.isCells] at ho
theorem below_grown {w w' : World} (h : Below w.heap.size w w') : w.grownBy w' none := ⟨h.os, h.tape, h.output, h.size, fun k hk _ => h.block k hk⟩

theorem range_part (n i : Nat) (h : i < n) : ∃ rest, List.range n = List.range i ++ i :: rest := by
  obtain ⟨m, rfl⟩ : ∃ m, n = i + 1 + m := ⟨n - (i + 1), by omega⟩
  exact ⟨(List.range m).map (i + 1 + ·), by rw [List.range_add, List.range_succ]; simp⟩
/-- The key's number i, as the iterator hands it over. -/
def keyE (k : W2) (i : Nat) : Array Value := #[.int .i64 (i : Int), .int .u64 ((ksS k i).2.toNat : Int)]
set_option maxRecDepth 100000 in
set_option maxHeartbeats 2000000 in
theorem keys1_in (F : Fence) (n M : Nat) (hfn : ∀ f, F.fn f) (hro : F.round = none) (hn : 1 ≤ n)
    (conv : ∀ (f : FuncId) (args : Array Value) (W : World) (R : Ending → World → Prop) (n : Nat), Calls Tryz.prog f args W R → CallsIn F n Tryz.prog f args W R)
    (Bs : Nat) (k : List UInt8) (hk : k.length = 16) (w : World) (hB : Blk w Bs 23 (cellsB k).toArray) (hM : M ≤ w.heap.size) :
    Brings F n Tryz.prog 186 #[.pointer (some ⟨Bs, 0, none⟩)] (keyE (wds k)) (KpM M) (List.range 32) w := by
  intro l J W hW hJ hY h0
  have hBW : Blk W Bs 23 (cellsB k).toArray := hB.below hW hB.lt
  have hcell : ∀ j, W.cell? ⟨Bs, j, none⟩ = (cellsB k).toArray[j]? := fun j => hBW.cell j
  have hkl : (cellsB k).length = 16 := by rw [cellsB_length, hk]
  have HK := Lib.hid hk
  have HMW : Hid (M ≤ W.heap.size) := by have := hW.size; unfold Hid; omega
  have HYY := Lib.hid hY
  have HJJ := Lib.hid hJ
  have H0 := Lib.hid h0
  have CW : Hid (CallsIn F (n - 1) Tryz.prog 155 #[.agg (cellsB k).toArray] W fun e w' => e = .returned (.agg #[.int .u64 ((wds k).1.toNat : Int), .int .u64 ((wds k).2.toNat : Int)]) ∧ Below W.heap.size W w') := conv _ _ _ _ _ (wordsOf_any k W hk)
  have CR : Hid (∀ (p : W2) (i : Nat), i < 32 → ∀ W', CallsIn F (n - 1) Tryz.prog 181 #[.agg #[.int .u64 (p.1.toNat : Int), .int .u64 (p.2.toNat : Int)], .int .u64 (i : Int)] W' fun e w' => e = .returned (.agg #[.int .u64 ((rnd (UInt64.ofNat i) p).1.toNat : Int), .int .u64 ((rnd (UInt64.ofNat i) p).2.toNat : Int)]) ∧ Below W'.heap.size W' w') := fun p i hi W' => conv _ _ _ _ _ (round_nat p i hi W')
  clear hk hB hM hBW hY hJ h0 hW
  refine callsIn_of_wp Tryz.func186 rfl (hfn _) ?_ hro
  simp only [Tryz.ntmps186, List.size_toArray, List.length_cons, List.length_nil, Nat.reduceAdd, Nat.reduceSub, Array.replicate_succ, Array.replicate_zero, List.push_toArray, List.append_toArray, List.nil_append, List.cons_append]
  gi_wp2_with (gi_at_call 155; rw [fold16B k HK.out]; refine CW.out.mono ?_; rintro e w1 ⟨rfl, hb1⟩)
  have hs1 : M ≤ w1.heap.size := by have := HMW.out; have := hb1.size; omega
  have hsW : W.heap.size ≤ w1.heap.size := hb1.size
  gi_loopw [7] (fun vi wr => ∃ i : Nat, i ≤ 32 ∧ vi = .int .i64 (i : Int) ∧ J (List.range i) wr ∧ Blk wr w1.heap.size 193 #[.int .u64 ((ksS (wds k) i).1.toNat : Int), .int .u64 ((ksS (wds k) i).2.toNat : Int)]) (fun vi _ => 32 - (intOf vi).toNat)
  case atStart =>
    exact ⟨0, by omega, rfl, HJJ.out.more (HJJ.out _ _ _ none H0.out (below_grown hb1) (fun r e => by cases e)) _, Blk.new _ _ _⟩
  case round =>
    obtain ⟨i, hi, rfl, hJ, hB⟩ := hrel
    by_cases hlt : i < 32
    · have c0 := hB.cell 0
      have c1 := hB.cell 1
      simp only [List.getElem?_toArray, List.getElem?_cons_zero, List.getElem?_cons_succ] at c0 c1
      obtain ⟨fn, tmps, assign, body, hy, hR2⟩ := HYY.out _ i wr hJ (range_part 32 i hlt)
      have HR2 := Lib.hid hR2
      unfold keyE at hy
      have hii : (i : Int) < 32 := by omega
      have HRS : Hid (List.range (i + 1) = List.range i ++ [i]) := List.range_succ
      obtain ⟨p, hp⟩ : ∃ p, ksS (wds k) i = p := ⟨_, rfl⟩
      have HP : Hid (ksS (wds k) (i + 1) = rnd (UInt64.ofNat i) p) := by unfold Hid; rw [ksS, hp]
      rw [hp] at hy hB c0 c1
      have hx := u64_bd p.1
      have hy2 := u64_bd p.2
      clear hJ hR2 hp
      gi_wp2
      refine HR2.out.mono ?_
      rintro e W3 ⟨rfl, hJ3, hk3⟩
      have hB3 : Blk W3 w1.heap.size 193 #[.int .u64 (p.1.toNat : Int), .int .u64 (p.2.toNat : Int)] := (hk3 _ _ _ _ hs1 hB).trans hB
      have d0 := hB3.cell 0
      have d1 := hB3.cell 1
      simp only [List.getElem?_toArray, List.getElem?_cons_zero, List.getElem?_cons_succ] at d0 d1
      have HB3 := Lib.hid hB3
      have HJ3 := Lib.hid hJ3
      clear c0 c1 hy hB hJ3 hk3 hB3
      gi_wp2_with (gi_at_call 181; refine (CR.out p i hlt _).mono ?_; rintro e w4 ⟨rfl, hb4⟩; have hB4 := HB3.out.below' hb4; have f0 := hB4.frozen 0; have f1 := hB4.frozen 1; have g0 := hB4.cell 0; have g1 := hB4.cell 1; simp only [List.getElem?_toArray, List.getElem?_cons_zero, List.getElem?_cons_succ] at g0 g1; have HB4 := Lib.hid hB4; clear hB4)
      go_roundw
      case rel =>
        refine ⟨i + 1, by omega, by go_num, ?_, by rw [HP.out]; simpa using (HB4.out.set_ 0 (.int .u64 ((rnd (UInt64.ofNat i) p).1.toNat : Int))).set_ 1 (.int .u64 ((rnd (UInt64.ofNat i) p).2.toNat : Int))⟩
        rw [HRS.out]
        have j4 := HJJ.out _ _ _ none HJ3.out (below_grown hb4) (fun r e => by cases e)
        have gs : ∀ (X : World) (o : Nat) (v : Value), X.grownBy (X.setCell ⟨w1.heap.size, o, none⟩ v) (some w1.heap.size) := fun X o v => ⟨rfl, rfl, rfl, by simp [World.setCell], fun j hj hne => Below.heap_setCell X ⟨w1.heap.size, o, none⟩ v j (fun e => hne (by rw [e]))⟩
        exact HJJ.out _ _ _ _ (HJJ.out _ _ _ _ j4 (gs _ 0 _) (fun r e => by cases e; exact hsW)) (gs _ 1 _) (fun r e => by cases e; exact hsW)
      case measure => simp [intOf]; omega
    · obtain rfl : i = 32 := by omega
      gi_wp2
      go_end0
      exact ⟨⟨_, rfl⟩, hJ⟩
end Go.Proofs.YtenpkmgbaajeeaaGreat

/- Encrypt: the rounds. -/
namespace Go.Proofs.YtenpkmgbaajeeaaGreat
open Go.RowKit Go.Shelf
set_option linter.unusedVariables false
attribute [local go_sem] Oper.semAt_some run_storeCells_key

set_option maxHeartbeats 1000000 in
theorem keys_any (k : List UInt8) (w : World) : Calls Tryz.prog 180 #[.agg (cellsB k).toArray] w fun e w' => e = .returned (.func (.func 186) #[] #[.pointer (some ⟨w.heap.size, 0, none⟩)]) ∧ w' = w.alloc (.cells (cellsB k).toArray 23) := by
  go_enter Tryz.func180, Tryz.ntmps180
  go_wp2_with fail
  go_ret
  exact ⟨rfl, rfl⟩

set_option maxRecDepth 100000 in
set_option maxHeartbeats 2000000 in
theorem Encrypt_any (k b : List UInt8) (w : World) (hk : k.length = 16) (hb : b.length = 16) : Calls Tryz.prog 153 #[.agg (cellsB k).toArray, .agg (cellsB b).toArray] w fun e w' => e = .returned (.agg (cellsB (encS k b)).toArray) ∧ Below w.heap.size w w' := by
  have HK := Lib.hid hk
  have HB := Lib.hid hb
  have hkl : (cellsB k).length = 16 := by rw [cellsB_length, hk]
  have hbl : (cellsB b).length = 16 := by rw [cellsB_length, hb]
  have HZ := Lib.hid zero16
  refine (callsIn_wide (n := 6)).1 ?_
  have conv : ∀ (f : FuncId) (args : Array Value) (W : World) (R : Ending → World → Prop) (n : Nat), Calls Tryz.prog f args W R → CallsIn Fence.wide n Tryz.prog f args W R := fun _ _ _ _ _ h => callsIn_wide.2 h
  have hro : Fence.wide.round = none := rfl
  have hfn : ∀ f, Fence.wide.fn f := fun _ => trivial
  generalize Fence.wide = F at *
  clear hk hb
  refine callsIn_of_wp_marks Tryz.func153 rfl (hfn _) ?_ hro
  simp only [Tryz.ntmps153, List.size_toArray, List.length_cons, List.length_nil, Nat.reduceAdd, Nat.reduceSub, Array.replicate_succ, Array.replicate_zero, List.push_toArray, List.append_toArray, List.nil_append, List.cons_append]
  gi_wp2_with (first
    | (gi_at_call 155; rw [fold16B b HB.out, HZ.out]; refine (conv _ _ _ _ _ (wordsOf_any b _ HB.out)).mono ?_; rintro e w1 ⟨rfl, hb1⟩; have hck : ∀ j o, (w1.alloc o).cell? ⟨w.heap.size, j, none⟩ = (cellsB k).toArray[j]? := fun j o => (((blk_a0 w (cellsB k).toArray 23 _ _).below' hb1).alloc o).cell j; have hz : w.heap.size + 1 + 1 < w1.heap.size := by have := hb1.size; simp at this; omega)
    | (gi_at_call 180; rw [fold16B k HK.out]; refine (conv _ _ _ _ _ (keys_any k _)).mono ?_; rintro e w2 ⟨rfl, rfl⟩))
  have hB0 : Blk w1 (w.heap.size + 1 + 1) 23 (cellsB zeroK).toArray := (blk_a2 w _ _ (cellsB zeroK).toArray 23).below' hb1
  have hb01 : Below w.heap.size w w1 := (alloc3_bel w _ _ _).trans (hb1.mono (alloc3_bel w _ _ _).size)
  obtain ⟨WS, hWS⟩ : ∃ W : World, W = (w1.alloc (.cells #[.int .u64 ((wds b).1.toNat : Int), .int .u64 ((wds b).2.toNat : Int)] 193)).alloc (.cells (cellsB k).toArray 23) := ⟨_, rfl⟩
  have sWS : WS.heap.size = w1.heap.size + 1 + 1 := by rw [hWS]; simp
  have bP : Blk WS w1.heap.size 193 #[.int .u64 ((wds b).1.toNat : Int), .int .u64 ((wds b).2.toNat : Int)] := by rw [hWS]; exact blk_b0 _ _ _ _
  have bK : Blk WS (w1.heap.size + 1) 23 (cellsB k).toArray := by rw [hWS]; exact blk_b1 _ _ _ _
  have bR : Blk WS (w.heap.size + 1 + 1) 23 (cellsB zeroK).toArray := by rw [hWS]; exact (hB0.alloc _).alloc _
  have b0S : Below w.heap.size w WS := by rw [hWS]; exact hb01.trans ((alloc2_bel w1 _ _).mono hb01.size)
  rw [← hWS]
  have HRD : Hid (∀ (p : W2) (u : UInt64) W', CallsIn F 3 Tryz.prog 181 #[.agg #[.int .u64 (p.1.toNat : Int), .int .u64 (p.2.toNat : Int)], .int .u64 (u.toNat : Int)] W' fun e w' => e = .returned (.agg #[.int .u64 ((rnd u p).1.toNat : Int), .int .u64 ((rnd u p).2.toNat : Int)]) ∧ Below W'.heap.size W' w') := fun p u W' => conv _ _ _ _ _ (round_any p u W')
  have HBL : Hid (∀ (p : W2) W', CallsIn F 5 Tryz.prog 182 #[.agg #[.int .u64 (p.1.toNat : Int), .int .u64 (p.2.toNat : Int)]] W' fun e w' => e = .returned (.agg (cellsB (blk p)).toArray) ∧ Below W'.heap.size W' w') := fun p W' => conv _ _ _ _ _ (block_any p W')
  clear hck hkl hbl hWS hB0
  refine wpIn_range_box (xs := List.range 32) hro (by omega) (gf := 186) (lb := #[.pointer (some ⟨w1.heap.size + 1, 0, none⟩)]) rfl (hfn _) (enters_of Tryz.func186 (by kernel_rfl) rfl)
    (keys1_in F 5 (w1.heap.size + 1) hfn hro (by omega) conv (w1.heap.size + 1) k HK.out WS bK (by omega)) KpM.trans (fun W l o o' _ h ho => KpM.put W l o o' h ho) (Below.refl _ _) (fun _ => rfl)
    (fun pre W => Blk W w1.heap.size 193 #[.int .u64 ((enW (wds k) (wds b) pre.length).1.toNat : Int), .int .u64 ((enW (wds k) (wds b) pre.length).2.toNat : Int)] ∧ Blk W (w.heap.size + 1 + 1) 23 (cellsB zeroK).toArray ∧ Below w.heap.size w W)
    ?hI ⟨bP, bR, b0S⟩ (fun x => { tmps := #[.agg (cellsB k).toArray, .agg (cellsB b).toArray, .pointer (some ⟨w.heap.size, 0, none⟩), .pointer (some ⟨w.heap.size + 1, 0, none⟩), .pointer (some ⟨w.heap.size + 1 + 1, 0, none⟩), .pointer (some ⟨w1.heap.size, 0, none⟩), undef, .int .u64 ((ksS (wds k) x).2.toNat : Int), .agg (cellsB b).toArray,
      .agg #[.int .u64 ((wds b).1.toNat : Int), .int .u64 ((wds b).2.toNat : Int)], .agg (cellsB k).toArray, .func (.func 186) #[] #[.pointer (some ⟨w1.heap.size + 1, 0, none⟩)], .int .i64 (x : Int), .int .u64 ((ksS (wds k) x).2.toNat : Int), undef, undef, undef, undef, undef], defers := [] }) ?assign ?body ?done
  case hI =>
    rintro pre X Y row ⟨i1, i2, i3⟩ hg hr
    exact ⟨(hg.block _ i1.lt (fun e => by have := hr _ e.symm; omega)).trans i1, (hg.block _ i2.lt (fun e => by have := hr _ e.symm; omega)).trans i2, i3.grown hg i3.size (fun g e => by have := hr g e; have := b0S.size; omega)⟩
  case assign =>
    intro l x W K hK
    unfold keyE
    gi_wp2
    exact hK
  case body =>
    rintro l pre x W ⟨i1, i2, i3⟩ ⟨rest, hrest⟩
    have hx : x = pre.length := by
      have := congrArg (fun l => l[pre.length]?) hrest
      simp only [List.getElem?_append_right (Nat.le_refl _), Nat.sub_self, List.getElem?_cons_zero] at this
      rcases Nat.lt_or_ge pre.length 32 with h | h
      · rw [List.getElem?_range h] at this
        injection this with this
        exact this.symm
      · rw [List.getElem?_eq_none (by simpa using h)] at this; cases this
    obtain ⟨p, hp⟩ : ∃ p, enW (wds k) (wds b) pre.length = p := ⟨_, rfl⟩
    have HN : Hid (enW (wds k) (wds b) (pre ++ [x]).length = rnd (ksS (wds k) x).2 p) := by
      unfold Hid
      rw [List.length_append, show [x].length = 1 from rfl, enW, hp, hx]
    rw [hp] at i1
    have c0 := i1.cell 0
    have c1 := i1.cell 1
    simp only [List.getElem?_toArray, List.getElem?_cons_zero, List.getElem?_cons_succ] at c0 c1
    obtain ⟨u, hu⟩ : ∃ u, (ksS (wds k) x).2 = u := ⟨_, rfl⟩
    rw [hu] at HN ⊢
    have I1 := Lib.hid i1
    have I2 := Lib.hid i2
    have LT1 := Lib.hid i2.lt
    clear hp hx hu hrest i1 i2
    gi_wp2_with (gi_at_call 181; refine (CallsIn.inRound l (HRD.out p u _)).mono ?_; rintro e w4 ⟨rfl, hb4⟩; have hB4 := I1.out.below' hb4; have f0 := hB4.frozen 0; have f1 := hB4.frozen 1; have g0 := hB4.cell 0; have g1 := hB4.cell 1; simp only [List.getElem?_toArray, List.getElem?_cons_zero, List.getElem?_cons_succ] at g0 g1; have HB4 := Lib.hid hB4; clear hB4)
    have kf0 : KeepsFrom WS.heap.size W w4 := ⟨hb4.size, fun k o _ hk ho => (hb4.block k (Array.getElem?_eq_some_iff.1 hk).1).trans hk⟩
    have kf := (kf0.trans ((KeepsOthers.setCell w4 ⟨w1.heap.size, 0, none⟩ (.int .u64 ((rnd u p).1.toNat : Int))).from WS.heap.size)).trans ((KeepsOthers.setCell (w4.setCell ⟨w1.heap.size, 0, none⟩ (.int .u64 ((rnd u p).1.toNat : Int))) ⟨w1.heap.size, 1, none⟩ (.int .u64 ((rnd u p).2.toNat : Int))).from WS.heap.size)
    refine ⟨kf, ?_, ?_, ?_, ?_⟩
    · intro j cs t fr hj hc
      exact ((Below.heap_setCell _ ⟨w1.heap.size, 1, none⟩ _ j (by simp; omega)).trans (Below.heap_setCell _ ⟨w1.heap.size, 0, none⟩ _ j (by simp; omega))).trans (hb4.block j (Array.getElem?_eq_some_iff.1 hc).1)
    · rw [HN.out]
      simpa using (HB4.out.set_ 0 (.int .u64 ((rnd u p).1.toNat : Int))).set_ 1 (.int .u64 ((rnd u p).2.toNat : Int))
    · exact ((I2.out.below' hb4).far (p := ⟨w1.heap.size, 0, none⟩) (by simp; omega) _).far (p := ⟨w1.heap.size, 1, none⟩) (by simp; omega) _
    · exact ((i3.trans (hb4.mono i3.size)).setCell (p := ⟨w1.heap.size, 0, none⟩) (by simp; omega) _).setCell (p := ⟨w1.heap.size, 1, none⟩) (by simp; omega) _
  case done =>
    rintro D W hD ⟨i1, i2, i3⟩ hK
    rw [List.length_range] at i1
    have HE : Hid (encS k b = blk (enW (wds k) (wds b) 32)) := rfl
    obtain ⟨p, hp⟩ : ∃ p, enW (wds k) (wds b) 32 = p := ⟨_, rfl⟩
    rw [hp] at i1 HE
    have c0 := i1.cell 0
    have c1 := i1.cell 1
    simp only [List.getElem?_toArray, List.getElem?_cons_zero, List.getElem?_cons_succ] at c0 c1
    have hl : (cellsB (blk p)).length = 16 := rfl
    have hall : (cellsB (blk p)).all (·.oneCell') = true := List.all_eq_true.2 (cellsB_one _)
    have I2 := Lib.hid i2
    clear hp i1 i2
    gi_wp2_with (gi_at_call 182; refine (HBL.out p _).mono ?_; rintro e w5 ⟨rfl, hb5⟩; have hB5 := I2.out.below' hb5; have hr5 : (rowAt w5 (w.heap.size + 1 + 1)).size = 16 := by { rw [hB5.row]; rfl }; have hf5 := hB5.free; have HB5 := Lib.hid hB5; clear hB5)
    have hD2 : D < W.heap.size := (Array.getElem?_eq_some_iff.1 hK).1
    have hB6 := HB5.out.setRow (cellsB (blk p)).toArray
    have hDne : D ≠ w.heap.size + 1 + 1 := by omega
    have hK' : (w5.setRow (w.heap.size + 1 + 1) (cellsB (blk p)).toArray).heap[D]? = some (.deferred (some [])) := (setRow_other _ _ _ _ hDne).trans ((hb5.block D hD2).trans hK)
    have hB7 : Blk ((w5.setRow (w.heap.size + 1 + 1) (cellsB (blk p)).toArray).putObj D (.deferred none)) (w.heap.size + 1 + 1) 23 (cellsB (blk p)).toArray := (World.putObj_heap_other (by omega)).trans hB6
    have hbel : Below w.heap.size w (w5.setRow (w.heap.size + 1 + 1) (cellsB (blk p)).toArray) := below_setRow (i3.trans (hb5.mono i3.size)) (by omega) _
    refine ⟨by simp, .inl ⟨_, _, rfl, run_takeDeferred hK', ?_⟩⟩
    exact ⟨.agg (cellsB (blk p)).toArray, results_cell_row rfl _ _ (w.heap.size + 1 + 1) _ _ (0, 0) _ rfl hB7 under_key rfl (cellsB_size _ rfl), by rw [HE.out], hbel.trans (belowK_b (w := w) (Nat.le_refl _) _ D _ _ (by have := b0S.size; omega) hK' rfl rfl)⟩
end Go.Proofs.YtenpkmgbaajeeaaGreat

/- What is derived; a number below most: the program. -/
namespace Go.Proofs.YtenpkmgbaajeeaaGreat
open Go.RowKit Go.Shelf
set_option linter.unusedVariables false
attribute [local go_sem] run_storeCells_key

theorem tag_word (t : UInt8) (c : UInt64) : bits .or .u64 ((t.toNat : Int) * 72057594037927936) (c.toNat : Int) = ((t.toUInt64 <<< 56 ||| c).toNat : Int) := by
  rw [show (t.toNat : Int) * 72057594037927936 = IntKind.u64.wrap ((t.toNat : Int) * 72057594037927936) from by rw [IntKind.wrap_u64]; have := t.toNat_lt; omega]
  rw [show (t.toNat : Int) = (t.toUInt64.toNat : Int) from by rw [UInt8.toNat_toUInt64], u64_shl56, u64_or]
theorem all16 (l : List UInt8) : (cellsB l).all (·.oneCell') = true := List.all_eq_true.2 (cellsB_one _)

set_option maxHeartbeats 1000000 in
theorem blockOf_any (t : UInt8) (c n : UInt64) (w : World) : Calls Tryz.prog 154 #[.int .u8 (t.toNat : Int), .int .u64 (c.toNat : Int), .int .u64 (n.toNat : Int)] w fun e w' => e = .returned (.agg (cellsB (tagS t c n)).toArray) ∧ Below w.heap.size w w' := by
  have HZ := Lib.hid zero16
  have ht : (t.toNat : Int) ≤ 255 := by have := t.toNat_lt; omega
  have hc := u64_bd c
  have HT := Lib.hid (tag_word t c)
  have HE : Hid (tagS t c n = blk (t.toUInt64 <<< 56 ||| c, n)) := rfl
  obtain ⟨p, hp⟩ : ∃ p : W2, (t.toUInt64 <<< 56 ||| c, n) = p := ⟨_, rfl⟩
  have hl : (cellsB (blk p)).length = 16 := rfl
  have hall := all16 (blk p)
  rw [hp] at HE
  have HP : Hid ((t.toUInt64 <<< 56 ||| c) = p.1) := congrArg Prod.fst hp
  have HP2 : Hid (n = p.2) := congrArg Prod.snd hp
  clear hp
  go_enter Tryz.func154, Tryz.ntmps154
  go_wp2_with (go_at_call 182; rw [HT.out, HP.out, HP2.out, HZ.out]; refine (block_any p _).mono ?_; rintro e w1 ⟨rfl, hb1⟩; have hB1 := (Blk.new w 23 (cellsB zeroK).toArray).below' hb1; have hr1 : (rowAt w1 w.heap.size).size = 16 := by { rw [hB1.row]; rfl }; have hf1 := hB1.free; have HB1 := Lib.hid hB1; clear hB1)
  exact bodyPost_ret (results_cell_row rfl _ _ w.heap.size _ _ (0, 0) _ rfl (HB1.out.setRow (cellsB (blk p)).toArray) under_key rfl (cellsB_size _ rfl)) rfl ⟨by rw [HE.out], below_setRow ((alloc_bel _ _).trans (hb1.mono (alloc_bel _ _).size)) (Nat.le_refl _) _⟩

theorem blockOf_zero (t : UInt8) (n : UInt64) (w : World) : Calls Tryz.prog 154 #[.int .u8 (t.toNat : Int), .int .u64 0, .int .u64 (n.toNat : Int)] w fun e w' => e = .returned (.agg (cellsB (tagS t 0 n)).toArray) ∧ Below w.heap.size w w' := blockOf_any t 0 n w
set_option maxHeartbeats 1000000 in
theorem Derive_any (k : List UInt8) (t : UInt8) (n : UInt64) (w : World) (hk : k.length = 16) : Calls Tryz.prog 120 #[.agg (cellsB k).toArray, .int .u8 (t.toNat : Int), .int .u64 (n.toNat : Int)] w fun e w' => e = .returned (.agg (cellsB (derS k t n)).toArray) ∧ Below w.heap.size w w' := by
  have HK := Lib.hid hk
  have HZ := Lib.hid zero16
  have hkl : (cellsB k).length = 16 := by rw [cellsB_length, hk]
  have HE : Hid (derS k t n = encS k (tagS t 0 n)) := rfl
  have hl : (cellsB (encS k (tagS t 0 n))).length = 16 := rfl
  have hall := all16 (encS k (tagS t 0 n))
  clear hk
  go_enter Tryz.func120, Tryz.ntmps120
  go_wp2_with fail
  rw [HZ.out]
  go_region_with (first
    | (go_at_call 154; refine (blockOf_zero t n _).mono ?_; rintro e w1 ⟨rfl, hb1⟩; have hck : ∀ j, w1.cell? ⟨w.heap.size, j, none⟩ = (cellsB k).toArray[j]? := fun j => ((blk_b0 w (cellsB k).toArray 23 _).drew.below' hb1).cell j)
    | (go_at_call 153; rw [fold16B k HK.out]; refine (Encrypt_any k (tagS t 0 n) _ HK.out rfl).mono ?_; rintro e w2 ⟨rfl, hb2⟩; have hB2 := ((blk_b1 w (.cells (cellsB k).toArray 23) (cellsB zeroK).toArray 23).drew.below' hb1).below' hb2; have hr2 : (rowAt w2 (w.heap.size + 1)).size = 16 := by { rw [hB2.row]; rfl }; have hf2 := hB2.free; have HB2 := Lib.hid hB2; clear hB2))
  all_goals
    go_wp2_with fail
    exact bodyPost_ret (results_cell_row rfl _ _ (w.heap.size + 1) _ _ (0, 0) _ rfl (HB2.out.setRow (cellsB (encS k (tagS t 0 n))).toArray) under_key rfl (cellsB_size _ rfl)) rfl ⟨by rw [HE.out], below_setRow (((alloc2_bel w _ _).drew.trans (hb1.mono (alloc2_bel w _ _).size)).trans (hb2.mono (Nat.le_trans (alloc2_bel w _ _).size hb1.size))) (by omega) _⟩

theorem numS_pos {k : List UInt8} {n most : UInt64} (h : most ≠ 0) : numS k n most = (wds (derS k 3 n)).1 % most := by rw [numS, if_neg h]
theorem numS_zero {k : List UInt8} {n : UInt64} : numS k n 0 = 0 := by rw [numS, if_pos rfl]
set_option maxHeartbeats 1000000 in
set_option maxRecDepth 100000 in
theorem Number_any (k : List UInt8) (n most : UInt64) (w : World) (hk : k.length = 16) : Calls Tryz.prog 121 #[.agg (cellsB k).toArray, .int .u64 (n.toNat : Int), .int .u64 (most.toNat : Int)] w fun e w' => e = .returned (.int .u64 ((numS k n most).toNat : Int)) ∧ Below w.heap.size w w' := by
  have HK := Lib.hid hk
  have hkl : (cellsB k).length = 16 := by rw [cellsB_length, hk]
  by_cases h0 : most = 0
  · subst h0
    have HS : Hid (numS k n 0 = 0) := numS_zero
    have e0 : ((0 : UInt64).toNat : Int) = 0 := rfl
    rw [e0]
    clear hk
    go_enter Tryz.func121, Tryz.ntmps121
    go_wp2_with fail
    go_ret
    exact ⟨by rw [HS.out]; rfl, alloc_bel _ _⟩
  · have HS : Hid (numS k n most = (wds (derS k 3 n)).1 % most) := numS_pos h0
    have hmn : most.toNat ≠ 0 := fun e => h0 (UInt64.toNat_inj.1 (e.trans rfl))
    have hm0 : (most.toNat : Int) ≠ 0 := by omega
    have hm1 : ((most.toNat : Int) == 0) = false := by rw [beq_eq_false_iff_ne]; exact hm0
    have hm2 : (most.toNat == 0) = false := by rw [beq_eq_false_iff_ne]; omega
    have hm3 : ¬ most.toNat = 0 := by omega
    have bm := u64_bd most
    have bx := u64_bd (wds (derS k 3 n)).1
    have HM2 : Hid (((wds (derS k 3 n)).1.toNat : Int) % (most.toNat : Int) = ((((wds (derS k 3 n)).1 % most).toNat : Nat) : Int)) := by
      unfold Hid; rw [UInt64.toNat_mod]; exact (Int.natCast_emod _ _).symm
    have HD : Hid (∀ W, Calls Tryz.prog 120 #[.agg (cellsB k).toArray, .int .u8 3, .int .u64 (n.toNat : Int)] W fun e w' => e = .returned (.agg (cellsB (derS k 3 n)).toArray) ∧ Below W.heap.size W w') := fun W => Derive_any k 3 n W hk
    obtain ⟨d, hd⟩ : ∃ d, derS k 3 n = d := ⟨_, rfl⟩
    have hdl : Hid (d.length = 16) := by rw [← hd]; rfl
    rw [hd] at HS HM2 HD bx
    have hfl : ∀ (x y : Int) W, (Instr.field 193 (.agg #[.int .u64 x, .int .u64 y]) 0).run Tryz.prog W = .ok (.int .u64 x) W := fun _ _ _ => by kernel_rfl
    clear hk h0 hd hmn hm0
    go_enter Tryz.func121, Tryz.ntmps121
    go_wp2_with (first
      | (go_at_call 120; rw [fold16B k HK.out]; refine (HD.out _).mono ?_; rintro e w1 ⟨rfl, hb1⟩)
      | (go_at_call 155; refine (wordsOf_any d _ hdl.out).mono ?_; rintro e w2 ⟨rfl, hb2⟩))
    go_ret
    exact ⟨ret_u64 (by rw [HS.out]; exact HM2.out), (alloc_bel _ _).trans ((hb1.trans (hb2.mono hb1.size)).mono (alloc_bel _ _).size)⟩
end Go.Proofs.YtenpkmgbaajeeaaGreat

/- Bytes and rows of bytes of the call's own: append; a row as a string. -/
namespace Go.Proofs.YtenpkmgbaajeeaaGreat
open Go.RowKit
set_option linter.unusedVariables false

theorem u8_info' : (Tryz.prog.info? 5).map (fun i => (i.zero, i.size, i.bytes)) = some (some (.int .u8 0), 1, 1) := by kernel_rfl
theorem OB.below {B : Nat} {w w' : World} {A : Option Addr} {c : Nat} {l : List UInt8} (h : OB B w A c l) (hb : Below w.heap.size w w') : OB B w' A c l := ownsRow_below h hb
theorem OB.br {B : Nat} {w : World} {A : Option Addr} {c : Nat} {l : List UInt8} (h : OB B w A c l) (hl : l.length ≤ 140737488351232) : BR w A c l := Rd.of_own h hl
theorem OB.le_ {B B' : Nat} {w : World} {A : Option Addr} {c : Nat} {l : List UInt8} (h : OB B w A c l) (hB : B' ≤ B) : OB B' w A c l :=
  ⟨h.1, h.2.elim Or.inl (fun ⟨g, cap, cur, hv, hg, r⟩ => Or.inr ⟨g, cap, cur, hv, Nat.le_trans hB hg, r⟩)⟩
theorem OB.nil' (B : Nat) (w : World) : OB B w none 0 [] := World.ownsRow_nil w B _ 1
/-- An empty literal. -/
theorem OB.lit0 (B : Nat) (w : World) (hB : B ≤ w.heap.size) : OB B (w.alloc (.cells #[] 5)) (some ⟨w.heap.size, 0, none⟩) 0 [] := World.ownsRow_lit w #[] 0 hB (by simp [maxLen]) (by simp)
/-- A literal. -/
theorem OB.lit (B : Nat) (w : World) (l : List UInt8) (hB : B ≤ w.heap.size) (hl : l.length ≤ 1000000) {n : Nat} (hn : l.length = n) : OB B (w.alloc (.cells (cellsB l).toArray 5)) (some ⟨w.heap.size, 0, none⟩) n l := by
  subst hn
  exact World.ownsRow_lit (e := 5) (size := 1) w (cellsB l).toArray l.length hB (by simp only [maxLen]; omega) (by simp [cellsB])
theorem BR.src {w : World} {A : Option Addr} {c : Nat} {l : List UInt8} (h : BR w A c l) {n : Nat} (hn : l.length = n) : Src w 1 A n (cellsB l) := by subst hn; exact Rd.src h
theorem src_lit {w : World} (l : List UInt8) {n : Nat} (hn : l.length = n) : Src (w.alloc (.cells (cellsB l).toArray 5)) 1 (some ⟨w.heap.size, 0, none⟩) n (cellsB l) := by
  subst hn
  refine ⟨by simp [cellsB], .inr ⟨_, rfl, fun j u hu => ?_⟩⟩
  rw [Addr.add_lit, Nat.zero_add]
  simpa using hu

theorem wpList_append_bytes (w : World) {ops : Array Oper} {rest : List Oper} {o : Oper} {a : Act} {Q : Exit → Act → World → Prop} (hgd : o.guard = none) (s x : Operand)
    (ho : o.op = .call { callee := .builtin .append, args := #[s, x], argTypes := #[30, 30] })
    (B : Nat) (A : Option Addr) (n c : Nat) (l : List UInt8) (hn : l.length = n) (hs : a.eval s = .slice A n c) (hown : OB B w A c l)
    (X : Option Addr) (m d : Nat) (news : List UInt8) (hm : news.length = m) (hx : a.eval x = .slice X m d) (hsrc : Src w 1 X m (cellsB news))
    (hlen : n + m ≤ 140737488351232) (hB : B ≤ w.heap.size)
    (h : ∀ A' c' w', OB B w' A' c' (l ++ news) → Below B w w' → w.grownBy w' (Value.ownBlock (.slice A n c)) → wpList Tryz.prog ops Q rest (a.put o.dst (.slice A' (n + m) c')) w') : wpList Tryz.prog ops Q (o :: rest) a w := by
  obtain ⟨i0, hi, hz0, hz1, hz2⟩ := info_parts u8_info'
  subst hn hm
  refine wpList_append_src w hgd s x 30 ho B 5 i0 (.int .u8 0) 1 1 Tryz.underlying30 hi hz0 hz1 hz2 rfl (by omega) A l.length c (cellsB l) hs hown X news.length d (cellsB news) hx hsrc (cellsB_one _)
    (by simp only [maxLen]; omega) (by omega) hB ?_
  intro A' c' w' h1 h2 h3
  refine h A' c' w' ?_ (grown_below (Below.refl _ _) hown h2 hB (Nat.le_refl _)) h2
  unfold OB
  rw [cellsB_append, List.length_append]
  exact h1

/-- Some bytes as a string. -/
def strB (l : List UInt8) : ByteArray := ⟨l.toArray⟩
theorem strB_inj {a b : List UInt8} (h : strB a = strB b) : a = b := by
  have := congrArg (fun x : ByteArray => x.data.toList) h
  simpa [strB] using this
theorem run_string_br {w : World} {A : Option Addr} {c : Nat} {l : List UInt8} (h : BR w A c l) (n : Nat) (hn : l.length = n) : (convert 30 9 (.slice A n c)).run Tryz.prog w = .ok (.string (strB l)) w := by
  subst hn
  cases A with
  | none =>
    have hl : l = [] := by
      apply Classical.byContradiction
      intro hne
      obtain ⟨b, off, e, _⟩ := h.2 (by have := List.length_pos_iff.2 hne; omega)
      cases e
    subst hl
    rw [run_convert_bytes_string w 30 9 5 none _ c Tryz.underlying30 Tryz.underlying5 Tryz.underlying9]
    rfl
  | some p =>
    refine run_convert_bytes_back w 30 9 5 p c l Tryz.underlying30 Tryz.underlying5 Tryz.underlying9 (fun j hj => ?_)
    obtain ⟨b, off, e, hb, hc⟩ := h.at_ hj
    injection e with e
    subst e
    rw [Addr.add_lit, hc, bt_in hj]

/-- The rows that the call owns. -/
def RO (B : Nat) (w : World) (A : Option Addr) (c : Nat) (rs : List BRow) : Prop := w.ownsRow B 30 1 (.slice A rs.length c) rs.length (rs.map BRow.v)
theorem rows_info : (Tryz.prog.info? 30).map (fun i => (i.zero, i.size, i.bytes)) = some (some (.slice none 0 0), 1, 24) := by kernel_rfl
theorem RO.below {B : Nat} {w w' : World} {A : Option Addr} {c : Nat} {rs : List BRow} (h : RO B w A c rs) (hb : Below w.heap.size w w') : RO B w' A c rs := ownsRow_below h hb
theorem RO.nil (B : Nat) (w : World) : RO B w none 0 [] := World.ownsRow_nil w B _ 1
theorem wpList_append_row (w : World) {ops : Array Oper} {rest : List Oper} {o : Oper} {a : Act} {Q : Exit → Act → World → Prop} (hgd : o.guard = none) (s x : Operand)
    (ho : o.op = .call { callee := .builtin .append, args := #[s, x], argTypes := #[75, 75] })
    (B : Nat) (A : Option Addr) (n c : Nat) (rs : List BRow) (hn : rs.length = n) (hs : a.eval s = .slice A n c) (hown : RO B w A c rs)
    (r : BRow) (X : Option Addr) (d : Nat) (hx : a.eval x = .slice X 1 d) (hsrc : Src w 1 X 1 [r.v])
    (hlen : (n + 1) * 24 ≤ 140737488355328) (hB : B ≤ w.heap.size)
    (h : ∀ A' c' w', RO B w' A' c' (rs ++ [r]) → Below B w w' → w.grownBy w' (Value.ownBlock (.slice A n c)) → wpList Tryz.prog ops Q rest (a.put o.dst (.slice A' (n + 1) c')) w') : wpList Tryz.prog ops Q (o :: rest) a w := by
  obtain ⟨i0, hi, hz0, hz1, hz2⟩ := info_parts rows_info
  subst hn
  refine wpList_append_src w hgd s x 75 ho B 30 i0 (.slice none 0 0) 1 24 Tryz.underlying75 hi hz0 hz1 hz2 rfl (by omega) A rs.length c (rs.map BRow.v) hs hown X 1 d [r.v] hx hsrc (by intro u hu; rw [List.mem_singleton.1 hu]; rfl)
    (by simp only [maxLen]; omega) hlen hB ?_
  intro A' c' w' h1 h2 h3
  refine h A' c' w' ?_ (grown_below (Below.refl _ _) hown h2 hB (Nat.le_refl _)) h2
  unfold RO
  rw [List.map_append, List.length_append]
  exact h1
theorem RO.rr {B : Nat} {w : World} {A : Option Addr} {c : Nat} {rs : List BRow} (h : RO B w A c rs) (hl : rs.length ≤ 140737488351232) (hb : ∀ r ∈ rs, BR w r.A r.c r.l) : RR w A c rs := ⟨Rd.of_own h hl, hb⟩
end Go.Proofs.YtenpkmgbaajeeaaGreat

/- The reference's bytes, words and blocks. -/
namespace Go.Proofs.YtenpkmgbaajeeaaGreat
open Go.RowKit
set_option linter.unusedVariables false

theorem mul_add_u8 (x : UInt64) (c : UInt8) : IntKind.u64.wrap (IntKind.u64.wrap (256 * (x.toNat : Int)) + (c.toNat : Int)) = ((256 * x + c.toUInt64).toNat : Int) := by
  rw [u64_mul256, show (c.toNat : Int) = (c.toUInt64.toNat : Int) from by rw [UInt8.toNat_toUInt64], u64_add]
theorem mul_add_u8m (x : UInt64) (c : UInt8) : (256 * (x.toNat : Int) + (c.toNat : Int)) % 18446744073709551616 = ((256 * x + c.toUInt64).toNat : Int) := by
  rw [UInt64.toNat_add, UInt64.toNat_mul, UInt8.toNat_toUInt64, show (256 : UInt64).toNat = 256 from rfl]
  omega
theorem wd_take_succ' {l : List UInt8} {k : Nat} (h : k < l.length) : wd (l.take (k + 1)) = 256 * wd (l.take k) + (l.getD k 0).toUInt64 := by
  rw [List.take_succ_eq_append_getElem h, wd_snoc]
  simp [List.getD, List.getElem?_eq_getElem h]

set_option maxHeartbeats 1000000 in
theorem refValue_any (A : Option Addr) (c : Nat) (l : List UInt8) (w : World) {n : Nat} (hn : l.length = n) (h : BR w A c l) : Calls Tryz.prog 162 #[.slice A n c] w fun e w' => e = .returned (.int .u64 ((wd l).toNat : Int)) ∧ w = w' := by
  have hlen : (n : Int) ≤ 140737488351232 := by have := h.len; omega
  have HN := Lib.hid hn
  have H := Lib.hid h
  clear hn h
  go_enter Tryz.func162, Tryz.ntmps162
  go_wp2_with fail
  go_loop [3, 4] (fun vx vk => ∃ (k : Nat) (x : UInt64), k ≤ n ∧ vk = .int .i64 k ∧ vx = .int .u64 (x.toNat : Int) ∧ Hid (x = wd (l.take k))) (fun _ vk => n - (intOf vk).toNat)
  case atStart => exact ⟨0, 0, by omega, rfl, rfl, rfl⟩
  case round =>
    obtain ⟨k, x, hk, rfl, rfl, HX⟩ := hrel
    by_cases hkn : k < n
    · obtain ⟨b, off, rfl, hb, hc⟩ := H.out.at_ (i := k) (by have := HN.out; omega)
      have HS := Lib.hid (wd_take_succ' (l := l) (k := k) (by have := HN.out; omega))
      unfold bt at hc
      generalize l.getD k 0 = v at *
      have hv : (v.toNat : Int) ≤ 255 := by have := v.toNat_lt; omega
      have hx := u64_bd x
      go_wp2_with fail
      go_round
      case rel => exact ⟨k + 1, 256 * x + v.toUInt64, by omega, by go_num, by first | rw [mul_add_u8] | rw [mul_add_u8m] | skip, by unfold Hid; rw [HS.out, HX.out]⟩
      case measure => simp [intOf]; omega
    · have HT : Hid (l.take k = l) := List.take_of_length_le (by have := HN.out; omega)
      rw [HT.out] at HX
      go_wp2_with fail
      go_ret
      exact ⟨by rw [HX.out]; rfl, rfl⟩

/-- A part of a key in a block, as bytes. -/
theorem Blk.br {w : World} {g : Nat} {t : TypeId} {b : List UInt8} (h : Blk w g t (cellsB b).toArray) (o n c : Nat) (hn : o + n ≤ b.length) (hc : n ≤ c) (hc2 : c ≤ 100) : BR w (some ⟨g, o, none⟩) c ((b.drop o).take n) := by
  have hl : ((b.drop o).take n).length = n := by rw [List.length_take, List.length_drop]; omega
  refine ⟨⟨by simp [cellsB], by omega, by omega, by omega⟩, fun _ => ⟨g, o, rfl, h.lt, fun j v hv => ?_⟩⟩
  rw [h.cell]
  have hj : j < n := by
    rcases Nat.lt_or_ge j n with h' | h'
    · exact h'
    · rw [List.getElem?_eq_none (by rw [cellsB_length, hl]; exact h')] at hv; cases hv
  rw [← hv]
  simp [cellsB, List.getElem?_take, hj, List.getElem?_drop]
set_option maxHeartbeats 1000000 in
theorem refWords_key (b : List UInt8) (w : World) (hb : b.length = 16) : Calls Tryz.prog 173 #[.agg (cellsB b).toArray] w fun e w' => e = .returned (.tuple #[.int .u64 ((wds b).1.toNat : Int), .int .u64 ((wds b).2.toNat : Int)]) ∧ Below w.heap.size w w' := by
  have hbl : (cellsB b).length = 16 := by rw [cellsB_length, hb]
  have hB := Blk.new w 23 (cellsB b).toArray
  have H1 := Lib.hid (hB.br 0 8 16 (by omega) (by omega) (by omega))
  have H2 := Lib.hid (hB.br 8 8 8 (by omega) (by omega) (by omega))
  have L1 : Hid (((b.drop 0).take 8).length = 8) := by unfold Hid; simp; omega
  have L2 : Hid (((b.drop 8).take 8).length = 8) := by unfold Hid; simp; omega
  have HE : Hid (wd ((b.drop 0).take 8) = (wds b).1 ∧ wd ((b.drop 8).take 8) = (wds b).2) := by
    refine ⟨rfl, ?_⟩
    rw [List.take_of_length_le (by simp; omega)]
    rfl
  obtain ⟨W1, hW1⟩ : ∃ W : World, W = w.alloc (.cells (cellsB b).toArray 23) := ⟨_, rfl⟩
  have b1 : Below w.heap.size w W1 := by rw [hW1]; exact alloc_bel _ _
  rw [← hW1] at H1 H2
  have HW := Lib.hid hW1
  clear hb hB hW1
  go_enter Tryz.func173, Tryz.ntmps173
  go_wp2_with fail
  rw [← HW.out]
  go_quiet ((first | (go_at_call 162; exact quiet_left' (refValue_any _ _ _ _ L1.out (H1.out.drewN _))) | (go_at_call 162; exact quiet_left' (refValue_any _ _ _ _ L2.out (H2.out.drewN _)))))
  go_wp2_with fail
  go_ret2
  exact ⟨by rw [HE.out.1, HE.out.2]; rfl, below_drewN b1 _⟩

/-- The lowest bytes of a word, the highest first. -/
def bysN (n : UInt64) : Nat → List UInt8
  | 0 => []
  | i + 1 => (n >>> UInt64.ofNat (8 * i)).toUInt8 :: bysN n i
theorem bysN_length (n : UInt64) (i : Nat) : (bysN n i).length = i := by
  induction i with
  | zero => rfl
  | succ i ih => rw [bysN, List.length_cons, ih]
theorem bysN_8 (n : UInt64) : bysN n 8 = by8 n := by
  have e : (n >>> UInt64.ofNat (8 * 0)) = n := by simp
  simp only [bysN, e]
  rfl
theorem by8_split (n : UInt64) : by8 n = (n >>> 56).toUInt8 :: bysN n 7 := by rw [← bysN_8]; rfl
/-- The number that is left after i bytes. -/
theorem shr_div (n : UInt64) (i : Nat) (hi : i < 8) : (n >>> UInt64.ofNat (8 * i)).toNat = n.toNat / 256 ^ i := by
  rw [toNat_shr _ _ (by omega), Nat.pow_mul]
theorem byte_mod (n : UInt64) (i : Nat) (hi : i < 8) {m : Nat} (hm : m = n.toNat / 256 ^ i) : ((m : Nat) : Int) % 256 = (((n >>> UInt64.ofNat (8 * i)).toUInt8.toNat : Nat) : Int) := by
  rw [UInt64.toNat_toUInt8, shr_div n i hi, ← hm]
  omega

set_option maxHeartbeats 1000000 in
theorem refBytes_any (n : UInt64) (size : Nat) (w : World) (hs : size ≤ 8) : Calls Tryz.prog 178 #[.int .u64 (n.toNat : Int), .int .i64 (size : Int)] w fun e w' => ∃ A c, e = .returned (.slice A size c) ∧ OB w.heap.size w' A c (bysN n size) ∧ Below w.heap.size w w' := by
  have hsi : (size : Int) ≤ 8 := by omega
  have hn := u64_bd n
  have HS := Lib.hid hs
  clear hs
  go_enter Tryz.func178, Tryz.ntmps178
  go_wp2_with fail
  go_loopw [0, 5, 6] (fun vn vo vi wr => ∃ (i m : Nat) (A : Option Addr) (c : Nat), i ≤ size ∧ vi = .int .i64 (i : Int) ∧ vn = .int .u64 (m : Int) ∧ (m : Int) ≤ 18446744073709551615 ∧ Hid (m = n.toNat / 256 ^ i) ∧ vo = .slice A i c ∧ Hid (OB w.heap.size wr A c (bysN n i)) ∧ Below w.heap.size w wr) (fun _ _ vi _ => size - (intOf vi).toNat)
  case atStart => exact ⟨0, n.toNat, none, 0, by omega, rfl, rfl, hn, by simp [Hid], rfl, OB.nil' _ _, Below.refl _ _⟩
  case round =>
    obtain ⟨i, m, A, c, hi, rfl, rfl, hm, HM, rfl, HO, hbel⟩ := hrel
    by_cases hlt : i < size
    · have hii : (i : Int) < size := by omega
      have HB := Lib.hid (byte_mod n i (by have := HS.out; omega) HM.out)
      have HD : Hid (((m : Nat) : Int) / 256 = ((m / 256 : Nat) : Int)) := by unfold Hid; omega
      have HM2 : Hid (m / 256 = n.toNat / 256 ^ (i + 1)) := by unfold Hid; rw [HM.out, Nat.div_div_eq_div_mul, Nat.pow_succ]
      have HMB : Hid (((m / 256 : Nat) : Int) ≤ 18446744073709551615) := by unfold Hid; omega
      obtain ⟨v, hv⟩ : ∃ v, (n >>> UInt64.ofNat (8 * i)).toUInt8 = v := ⟨_, rfl⟩
      have HV : Hid (bysN n (i + 1) = v :: bysN n i) := by unfold Hid; rw [bysN, hv]
      rw [hv] at HB
      clear hv
      have HLE := Lib.hid (bysN_length n i)
      go_wp2_with (at_builtin; rw [HB.out]; go_loud (refine wpList_append_bytes _ rfl (.tmp 15) (.tmp 16) rfl w.heap.size (some ⟨wr.heap.size, 0, none⟩) 1 1 [v] rfl rfl (OB.lit w.heap.size wr [v] hbel.size (by simp) rfl) A i c (bysN n i) HLE.out rfl (((HO.out.br (by have := HLE.out; omega)).below (alloc_bel _ _)).src HLE.out) (by omega) (by have := hbel.size; simp; omega) ?_); intro A1 c1 w1 hon1 hbl1 hg1; clear hg1; have HON1 := Lib.hid hon1; clear hon1)
      rw [HD.out]
      go_roundw
      case rel => exact ⟨i + 1, m / 256, A1, c1, by omega, by go_num, rfl, HMB.out, HM2, by rw [Nat.add_comm], by rw [HV.out]; exact HON1.out, (hbel.alloc hbel.size _).trans hbl1⟩
      case measure => simp [intOf]; omega
    · obtain rfl : i = size := by omega
      go_wp2_with fail
      go_ret
      exact ⟨A, c, rfl, HO.out, hbel⟩

/-- The first 16 bytes, zeros where there are none. -/
def padK (l : List UInt8) : List UInt8 := (List.range 16).map fun i => l.getD i 0
theorem padK_length (l : List UInt8) : (padK l).length = 16 := by simp [padK]
theorem padK_16 {l : List UInt8} (h : l.length = 16) : padK l = l := by
  match l, h with
  | [_, _, _, _, _, _, _, _, _, _, _, _, _, _, _, _], _ => rfl
/-- .. after k bytes. -/
def padS (l : List UInt8) (k : Nat) : List UInt8 := (List.range 16).map fun i => if i < k then l.getD i 0 else 0
theorem padS_length (l : List UInt8) (k : Nat) : (padS l k).length = 16 := by simp [padS]
theorem padS_step (l : List UInt8) (k : Nat) (hk : k < 16) : (padS l k).set k (l.getD k 0) = padS l (k + 1) := by
  refine List.ext_getElem (by simp [padS]) fun i h1 h2 => ?_
  simp only [padS, List.getElem_set, List.getElem_map, List.getElem_range]
  by_cases h : k = i
  · subst h; simp
  · rw [if_neg h]
    by_cases h3 : i < k
    · rw [if_pos h3, if_pos (by omega)]
    · rw [if_neg h3, if_neg (by omega)]
theorem padS_fin (l : List UInt8) (k : Nat) (hk : k = 16 ∨ l.length ≤ k) : padS l k = padK l := by
  refine List.ext_getElem (by simp [padS, padK]) fun i h1 h2 => ?_
  simp only [padS, padK, List.getElem_map, List.getElem_range]
  have hi : i < 16 := by simpa [padS] using h1
  by_cases h : i < k
  · rw [if_pos h]
  · rw [if_neg h]
    rcases hk with hk | hk
    · omega
    · simp [List.getD, List.getElem?_eq_none (show l.length ≤ i by omega)]
set_option maxHeartbeats 1000000 in
theorem refKey_any (A : Option Addr) (c : Nat) (l : List UInt8) (w : World) {n : Nat} (hn : l.length = n) (h : BR w A c l) : Calls Tryz.prog 179 #[.slice A n c] w fun e w' => e = .returned (.agg (cellsB (padK l)).toArray) ∧ Below w.heap.size w w' := by
  have hlen : (n : Int) ≤ 140737488351232 := by have := h.len; omega
  have HN := Lib.hid hn
  have H := Lib.hid h
  have HZ := Lib.hid zero16
  clear hn h
  go_enter Tryz.func179, Tryz.ntmps179
  go_wp2_with fail
  rw [HZ.out]
  go_loopw [4] (fun vk wr => ∃ k : Nat, k ≤ 16 ∧ k ≤ n ∧ vk = .int .i64 (k : Int) ∧ Blk wr w.heap.size 23 (cellsB zeroK).toArray ∧ Blk wr (w.heap.size + 1) 23 (cellsB (padS l k)).toArray ∧ Below w.heap.size w wr) (fun vk _ => 16 - (intOf vk).toNat)
  case atStart => exact ⟨0, by omega, by omega, rfl, blk_b0 _ _ _ _, blk_b1 _ _ _ _, alloc2_bel _ _ _⟩
  case round =>
    obtain ⟨k, hk, hkn, rfl, hB1, hB2, hbel⟩ := hrel
    by_cases h1 : k < 16 ∧ k < n
    · obtain ⟨h1, h2⟩ := h1
      obtain ⟨b, off, rfl, hb, hc⟩ := (H.out.below hbel).at_ (i := k) (by have := HN.out; omega)
      have HS := Lib.hid (padS_step l k h1)
      unfold bt at hc
      generalize l.getD k 0 = v at *
      have d0 := (hB2.cell k).trans (bytes_get _ k (by rw [padS_length]; omega))
      have f0 := hB2.frozen k
      have hki : (k : Int) < n := by omega
      have hki2 : (k : Int) < 16 := by omega
      have HB3 : Hid (Blk (wr.setCell ⟨w.heap.size + 1, k, none⟩ (.int .u8 (v.toNat : Int))) (w.heap.size + 1) 23 (cellsB (padS l (k + 1))).toArray) := by
        have := hB2.set_ k (.int .u8 (v.toNat : Int))
        rw [bytes_set, HS.out] at this
        exact this
      go_wp2_with fail
      go_roundw
      case rel => exact ⟨k + 1, by omega, by omega, by go_num, hB1.far (p := ⟨w.heap.size + 1, k, none⟩) (by simp) _, HB3.out, hbel.setCell (p := ⟨w.heap.size + 1, k, none⟩) (by simp) _⟩
      case measure => simp [intOf]; omega
    · have HF : Hid (padS l k = padK l) := padS_fin l k (by have := HN.out; omega)
      rw [HF.out] at hB2
      have hL := padK_length l
      have HB1 := Lib.hid hB1
      by_cases h16 : k < 16
      · obtain rfl : k = n := by omega
        go_wp2_with (first
          | (refine wpList_load_row rfl 23 (.tmp 3) rfl (w.heap.size + 1) rfl 23 (cellsB (padK l)).toArray (0, 0) _ hB2 under_key rfl (cellsB_size _ hL) ?_)
          | (refine wpList_store_row rfl 23 (.tmp 2) (.tmp 21) rfl w.heap.size (cellsB (padK l)).toArray rfl rfl 23 (cellsB zeroK).toArray HB1.out (cellsB_size _ hL) (cellsB_sizes _ _ zeroK_length hL) (cellsB_all _) ?_))
        exact bodyPost_ret (results_cell_row rfl _ _ w.heap.size _ _ (0, 0) _ rfl (HB1.out.setRow (cellsB (padK l)).toArray) under_key rfl (cellsB_size _ hL)) rfl ⟨rfl, below_setRow hbel (Nat.le_refl _) _⟩
      · obtain rfl : k = 16 := by omega
        go_wp2_with (first
          | (refine wpList_load_row rfl 23 (.tmp 3) rfl (w.heap.size + 1) rfl 23 (cellsB (padK l)).toArray (0, 0) _ hB2 under_key rfl (cellsB_size _ hL) ?_)
          | (refine wpList_store_row rfl 23 (.tmp 2) (.tmp 21) rfl w.heap.size (cellsB (padK l)).toArray rfl rfl 23 (cellsB zeroK).toArray HB1.out (cellsB_size _ hL) (cellsB_sizes _ _ zeroK_length hL) (cellsB_all _) ?_))
        exact bodyPost_ret (results_cell_row rfl _ _ w.heap.size _ _ (0, 0) _ rfl (HB1.out.setRow (cellsB (padK l)).toArray) under_key rfl (cellsB_size _ hL)) rfl ⟨rfl, below_setRow hbel (Nat.le_refl _) _⟩
end Go.Proofs.YtenpkmgbaajeeaaGreat

/- The reference's blocks of words, and of a tag. -/
namespace Go.Proofs.YtenpkmgbaajeeaaGreat
open Go.RowKit
set_option linter.unusedVariables false
attribute [local go_sem] run_storeCells_key

theorem refBytes_8 (n : UInt64) (w : World) : Calls Tryz.prog 178 #[.int .u64 (n.toNat : Int), .int .i64 8] w fun e w' => ∃ A c, e = .returned (.slice A 8 c) ∧ OB w.heap.size w' A c (bysN n 8) ∧ Below w.heap.size w w' := refBytes_any n 8 w (by omega)
theorem refBytes_7 (n : UInt64) (w : World) : Calls Tryz.prog 178 #[.int .u64 (n.toNat : Int), .int .i64 7] w fun e w' => ∃ A c, e = .returned (.slice A 7 c) ∧ OB w.heap.size w' A c (bysN n 7) ∧ Below w.heap.size w w' := refBytes_any n 7 w (by omega)
set_option maxHeartbeats 1000000 in
theorem refBlock2_any (x y : UInt64) (w : World) : Calls Tryz.prog 177 #[.int .u64 (x.toNat : Int), .int .u64 (y.toNat : Int)] w fun e w' => e = .returned (.agg (cellsB (blk (x, y))).toArray) ∧ Below w.heap.size w w' := by
  have HZ := Lib.hid zero16
  have HE : Hid (padK (bysN x 8 ++ bysN y 8) = blk (x, y)) := by unfold Hid; rw [bysN_8, bysN_8, padK_16 rfl]; rfl
  have hall := all16 (blk (x, y))
  have hl : (cellsB (blk (x, y))).length = 16 := rfl
  have L1 := Lib.hid (bysN_length x 8)
  have L2 := Lib.hid (bysN_length y 8)
  have L3 : Hid ((bysN x 8 ++ bysN y 8).length = 16) := by unfold Hid; rw [List.length_append, L1.out, L2.out]
  obtain ⟨bb, hbb⟩ : ∃ bb, blk (x, y) = bb := ⟨_, rfl⟩
  have HBL : Hid (bb.length = 16) := by rw [← hbb]; rfl
  rw [hbb] at HE hall hl ⊢
  clear hbb
  go_enter Tryz.func177, Tryz.ntmps177
  go_wp2_with (first
    | (go_at_call 178; (with_reducible refine (refBytes_8 x _).mono ?_); rintro e w1 ⟨A1, c1, rfl, ho1, hb1⟩; rw [HZ.out] at hb1; have HO1 := Lib.hid ho1; clear ho1)
    | (go_at_call 178; (with_reducible refine (refBytes_8 y _).mono ?_); rintro e w2 ⟨A2, c2, rfl, ho2, hb2⟩; have HO2 := Lib.hid ho2; clear ho2)
    | (at_builtin; refine wpList_append_bytes _ rfl (.tmp 6) (.tmp 8) rfl _ A1 8 c1 (bysN x 8) L1.out rfl (HO1.out.below hb2) A2 8 c2 (bysN y 8) L2.out rfl ((HO2.out.br (by have := L2.out; omega)).src L2.out) (by omega) (Nat.le_trans hb1.size hb2.size) ?_; intro A3 c3 w3 hon3 hbl3 hg3; clear hg3; have HO3 := Lib.hid hon3; clear hon3)
    | (go_at_call 179; refine (refKey_any A3 c3 _ _ L3.out (HO3.out.br (by have := L3.out; omega))).mono ?_; rintro e w4 ⟨rfl, hb4⟩; rw [HE.out]; have hb01 := hb1.trans ((hb2.mono hb1.size).trans hbl3); have hB := ((Blk.new w 23 (cellsB zeroK).toArray).below hb01 (by simp)).below' hb4; have hr5 : (rowAt w4 w.heap.size).size = 16 := by { rw [hB.row]; rfl }; have hf5 := hB.free; have HB := Lib.hid hB; clear hB))
  have hbF : Below w.heap.size w w4 := (alloc_bel w _).trans ((hb1.trans ((hb2.mono hb1.size).trans (hbl3.trans (hb4.mono (Nat.le_trans hb1.size (Nat.le_trans hb2.size hbl3.size)))))).mono (alloc_bel w (.cells (cellsB zeroK).toArray 23)).size)
  exact bodyPost_ret (results_cell_row rfl _ _ w.heap.size _ _ (0, 0) _ rfl (HB.out.setRow (cellsB bb).toArray) under_key rfl (cellsB_size _ HBL.out)) rfl ⟨rfl, below_setRow hbF (Nat.le_refl _) _⟩

/-- The block of a tag. -/
theorem tagS_bytes (t : UInt8) (c n : UInt64) (hc : c.toNat < 72057594037927936) : t :: (bysN c 7 ++ bysN n 8) = tagS t c n := by
  have hx : (t.toUInt64 <<< 56 ||| c).toNat = t.toNat * 72057594037927936 + c.toNat := by
    rw [UInt64.toNat_or, UInt64.toNat_shiftLeft, UInt8.toNat_toUInt64, show (56 : UInt64).toNat % 64 = 56 from rfl, Nat.shiftLeft_eq]
    have ht := t.toNat_lt
    rw [show t.toNat * 2 ^ 56 % 2 ^ 64 = t.toNat * 2 ^ 56 from by omega, or_add 56 (by omega)]
  unfold tagS blk
  dsimp only
  rw [by8_split, bysN_8]
  generalize (t.toUInt64 <<< 56 ||| c) = z at hx
  have e1 : (z >>> 56).toUInt8 = t := by
    apply UInt8.toNat_inj.1
    rw [UInt64.toNat_toUInt8, show (56 : UInt64) = UInt64.ofNat 56 from rfl, toNat_shr _ _ (by omega), hx]
    have ht := t.toNat_lt
    omega
  have e2 : bysN z 7 = bysN c 7 := by
    have hb : ∀ i, i < 7 → (z >>> UInt64.ofNat (8 * i)).toUInt8 = (c >>> UInt64.ofNat (8 * i)).toUInt8 := fun i hi => by
      apply UInt8.toNat_inj.1
      rw [UInt64.toNat_toUInt8, UInt64.toNat_toUInt8, toNat_shr _ _ (by omega), toNat_shr _ _ (by omega), hx]
      match i, hi with
      | 0, _ => omega
      | 1, _ => omega
      | 2, _ => omega
      | 3, _ => omega
      | 4, _ => omega
      | 5, _ => omega
      | 6, _ => omega
    simp only [bysN]
    rw [hb 0 (by omega), hb 1 (by omega), hb 2 (by omega), hb 3 (by omega), hb 4 (by omega), hb 5 (by omega), hb 6 (by omega)]
  rw [e1, e2]
  rfl

set_option maxHeartbeats 1000000 in
theorem refTag_any (t : UInt8) (c n : UInt64) (w : World) (hc : c.toNat < 72057594037927936) : Calls Tryz.prog 152 #[.int .u8 (t.toNat : Int), .int .u64 (c.toNat : Int), .int .u64 (n.toNat : Int)] w fun e w' => e = .returned (.agg (cellsB (tagS t c n)).toArray) ∧ Below w.heap.size w w' := by
  have HZ := Lib.hid zero16
  have HTB := Lib.hid (tagS_bytes t c n hc)
  have ht : (t.toNat : Int) ≤ 255 := by have := t.toNat_lt; omega
  have HE : Hid (padK (([t] ++ bysN c 7) ++ bysN n 8) = tagS t c n) := by
    have e : ([t] ++ bysN c 7) ++ bysN n 8 = tagS t c n := by rw [← HTB.out]; simp
    unfold Hid; rw [e, padK_16 rfl]
  have hall := all16 (tagS t c n)
  have hl : (cellsB (tagS t c n)).length = 16 := rfl
  have L1 := Lib.hid (bysN_length c 7)
  have L2 := Lib.hid (bysN_length n 8)
  have L4 : Hid (([t] ++ bysN c 7).length = 8) := by unfold Hid; rw [List.length_append, L1.out]; rfl
  have L3 : Hid ((([t] ++ bysN c 7) ++ bysN n 8).length = 16) := by unfold Hid; rw [List.length_append, L4.out, L2.out]
  obtain ⟨bb, hbb⟩ : ∃ bb, tagS t c n = bb := ⟨_, rfl⟩
  have HBL : Hid (bb.length = 16) := by rw [← hbb]; rfl
  rw [hbb] at HE hall hl ⊢
  have HL0 : Hid (OB (w.heap.size + 1) ((w.alloc (.cells (cellsB zeroK).toArray 23)).alloc (.cells #[.int .u8 (t.toNat : Int)] 5)) (some ⟨w.heap.size + 1, 0, none⟩) 1 [t]) := by
    have := OB.lit (w.heap.size + 1) (w.alloc (.cells (cellsB zeroK).toArray 23)) [t] (by simp) (by simp) rfl
    rw [World.size_alloc] at this
    exact this
  have HB0 : Hid (Blk ((w.alloc (.cells (cellsB zeroK).toArray 23)).alloc (.cells #[.int .u8 (t.toNat : Int)] 5)) w.heap.size 23 (cellsB zeroK).toArray) := blk_b0 _ _ _ _
  have HBL0 : Hid (Below w.heap.size w ((w.alloc (.cells (cellsB zeroK).toArray 23)).alloc (.cells #[.int .u8 (t.toNat : Int)] 5))) := alloc2_bel w _ _
  obtain ⟨W2, hW2⟩ : ∃ W : World, W = ((w.alloc (.cells (cellsB zeroK).toArray 23)).alloc (.cells #[.int .u8 (t.toNat : Int)] 5)) := ⟨_, rfl⟩
  rw [← hW2] at HL0 HB0 HBL0
  have HW2 := Lib.hid hW2
  clear hbb hc HTB hW2
  go_enter Tryz.func152, Tryz.ntmps152
  go_wp2_with (first
    | (go_at_call 178; (with_reducible refine (refBytes_7 c _).mono ?_); rintro e w1 ⟨A1, c1, rfl, ho1, hb1⟩; rw [HZ.out, ← HW2.out] at hb1 ho1; have HO1 := Lib.hid ho1; clear ho1; have hz2 : w.heap.size + 1 ≤ W2.heap.size := by { have := HW2.out; rw [this]; simp })
    | (go_at_call 178; (with_reducible refine (refBytes_8 n _).mono ?_); rintro e w2 ⟨A2, c2, rfl, ho2, hb2⟩; have HO2 := Lib.hid ho2; clear ho2)
    | (at_builtin; (refine wpList_append_bytes _ rfl (.tmp 9) (.tmp 11) rfl (w.heap.size + 1) (some ⟨w.heap.size + 1, 0, none⟩) 1 1 [t] rfl rfl (HL0.out.below hb1) A1 7 c1 (bysN c 7) L1.out rfl ((HO1.out.br (by have := L1.out; omega)).src L1.out) (by omega) (Nat.le_trans hz2 hb1.size) ?_); intro A3 c3 w3 hon3 hbl3 hg3; clear hg3; have HO3 := Lib.hid hon3; clear hon3)
    | (at_builtin; refine wpList_append_bytes _ rfl (.tmp 13) (.tmp 15) rfl (w.heap.size + 1) A3 8 c3 ([t] ++ bysN c 7) L4.out rfl (HO3.out.below hb2) A2 8 c2 (bysN n 8) L2.out rfl ((HO2.out.br (by have := L2.out; omega)).src L2.out) (by omega) (Nat.le_trans hz2 (Nat.le_trans hb1.size (Nat.le_trans hbl3.size hb2.size))) ?_; intro A4 c4 w4 hon4 hbl4 hg4; clear hg4; have HO4 := Lib.hid hon4; clear hon4)
    | (go_at_call 179; refine (refKey_any A4 c4 _ _ L3.out (HO4.out.br (by have := L3.out; omega))).mono ?_; rintro e w5 ⟨rfl, hb5⟩; rw [HE.out]; have hbx : Below (w.heap.size + 1) W2 w4 := ((hb1.mono hz2).trans (hbl3.trans ((hb2.mono (Nat.le_trans hz2 (Nat.le_trans hb1.size hbl3.size))).trans hbl4))); have hB := (HB0.out.below hbx (by omega)).below' hb5; have hr5 : (rowAt w5 w.heap.size).size = 16 := by { rw [hB.row]; rfl }; have hf5 := hB.free; have HB := Lib.hid hB; clear hB))
  have hbF : Below w.heap.size w w5 := (HBL0.out.trans (hbx.mono (by omega))).trans (hb5.mono (Nat.le_trans HBL0.out.size hbx.size))
  exact bodyPost_ret (results_cell_row rfl _ _ w.heap.size _ _ (0, 0) _ rfl (HB.out.setRow (cellsB bb).toArray) under_key rfl (cellsB_size _ HBL.out)) rfl ⟨rfl, below_setRow hbF (Nat.le_refl _) _⟩
end Go.Proofs.YtenpkmgbaajeeaaGreat

/- The reference's round keys, and Encrypt, Derive, Number. -/
namespace Go.Proofs.YtenpkmgbaajeeaaGreat
open Go.RowKit
set_option linter.unusedVariables false
attribute [local go_sem] run_storeCells_key

theorem quiet_n {P : Program} {f : FuncId} {args : Array Value} {w : World} {n : Nat} {v : Value}
    (h : Calls P f args (w.drewN n) fun e w' => e = .returned v ∧ ∃ m, w' = (w.drewN n).drewN m) : Calls P f args (w.drewN n) fun e w'' => e = .returned v ∧ ∃ m, w'' = w.drewN m :=
  h.mono fun _ _ ⟨he, m, hm⟩ => ⟨he, n + m, by rw [hm, World.drewN_drewN]⟩
def cellsU (l : List UInt64) : List Value := l.map fun x => .int .u64 (x.toNat : Int)
theorem cellsU_append (a b : List UInt64) : cellsU (a ++ b) = cellsU a ++ cellsU b := by simp [cellsU]
theorem u64_info : (Tryz.prog.info? 81).map (fun i => (i.zero, i.size, i.bytes)) = some (some (.int .u64 0), 1, 8) := by kernel_rfl
/-- The round keys up to number i. -/
def ksL (k : W2) (i : Nat) : List UInt64 := (List.range (i + 1)).map fun j => (ksS k j).2
theorem ksL_length (k : W2) (i : Nat) : (ksL k i).length = i + 1 := by simp [ksL]
theorem ksL_succ (k : W2) (i : Nat) : ksL k (i + 1) = ksL k i ++ [(ksS k (i + 1)).2] := by rw [ksL, List.range_succ]; simp [ksL]
theorem rnd_fst (i : Nat) (x y : UInt64) (hi : i < 64) : bits .xor .u64 (IntKind.u64.wrap ((y.toNat : Int) + ((rotr8 x).toNat : Int))) (i : Int) = ((rnd (UInt64.ofNat i) (x, y)).1.toNat : Int) := by
  have e : (i : Int) = ((UInt64.ofNat i).toNat : Int) := by rw [UInt64.toNat_ofNat', Nat.mod_eq_of_lt (by omega)]
  rw [u64_add, e, u64_xor, UInt64.add_comm]
  rfl
theorem rnd_fstm (i : Nat) (x y : UInt64) (hi : i < 64) : bits .xor .u64 (((y.toNat : Int) + ((rotr8 x).toNat : Int)) % 18446744073709551616) (i : Int) = ((rnd (UInt64.ofNat i) (x, y)).1.toNat : Int) := by
  rw [← rnd_fst i x y hi, u64_addm, u64_add]
theorem rnd_fstk (k x y : UInt64) : bits .xor .u64 (IntKind.u64.wrap (((rotr8 x).toNat : Int) + (y.toNat : Int))) (k.toNat : Int) = ((rnd k (x, y)).1.toNat : Int) := by
  rw [u64_add, u64_xor]
  rfl
theorem rnd_fstkm (k x y : UInt64) : bits .xor .u64 ((((rotr8 x).toNat : Int) + (y.toNat : Int)) % 18446744073709551616) (k.toNat : Int) = ((rnd k (x, y)).1.toNat : Int) := by
  rw [← rnd_fstk k x y, u64_addm, u64_add]
theorem rnd_snd (k x y : UInt64) : bits .xor .u64 ((rotl3 y).toNat : Int) ((rnd k (x, y)).1.toNat : Int) = ((rnd k (x, y)).2.toNat : Int) := by
  rw [u64_xor]
  rfl

set_option maxHeartbeats 1000000 in
set_option maxRecDepth 100000 in
theorem refRoundKeys_any (k : List UInt8) (w : World) (hk : k.length = 16) : Calls Tryz.prog 174 #[.agg (cellsB k).toArray] w fun e w' => ∃ A c, e = .returned (.slice A 32 c) ∧ Rd w' 1 A c 32 (cellsU (ksL (wds k) 31)) ∧ Below w.heap.size w w' := by
  have HK := Lib.hid hk
  have hkl : (cellsB k).length = 16 := by rw [cellsB_length, hk]
  clear hk
  go_enter Tryz.func174, Tryz.ntmps174
  go_wp2_with (go_at_call 173; rw [fold16B k HK.out]; refine (refWords_key k _ HK.out).mono ?_; rintro e w1 ⟨rfl, hb1⟩)
  have hb01 : Below w.heap.size w w1 := (alloc_bel w _).trans (hb1.mono (alloc_bel w (.cells (cellsB k).toArray 23)).size)
  go_loopw [3, 4, 5, 6] (fun vl va vo vi wr => ∃ (i : Nat) (A : Option Addr) (c : Nat), i ≤ 31 ∧ vi = .int .i64 (i : Int) ∧ vl = .int .u64 ((ksS (wds k) i).1.toNat : Int) ∧ va = .int .u64 ((ksS (wds k) i).2.toNat : Int) ∧ vo = .slice A (i + 1) c ∧
      Hid (wr.ownsRow w.heap.size 81 1 (.slice A (i + 1) c) (i + 1) (cellsU (ksL (wds k) i))) ∧ Below w.heap.size w wr) (fun _ _ _ vi _ => 31 - (intOf vi).toNat)
  case atStart =>
    refine ⟨0, some ⟨w1.heap.size, 0, none⟩, 1, by omega, rfl, rfl, rfl, rfl, ?_, hb01.alloc hb01.size _⟩
    exact World.ownsRow_lit (e := 81) (size := 1) w1 (cellsU (ksL (wds k) 0)).toArray 1 hb01.size (by simp [maxLen]) (by simp [cellsU, ksL])
  case round =>
    obtain ⟨i, A, c, hi, rfl, rfl, rfl, rfl, HO, hbel⟩ := hrel
    by_cases hlt : i < 31
    · have hii : (i : Int) < 31 := by omega
      have HKS : Hid (ksS (wds k) (i + 1) = rnd (UInt64.ofNat i) (ksS (wds k) i)) := rfl
      have HLS := Lib.hid (ksL_succ (wds k) i)
      obtain ⟨⟨x, y⟩, hp⟩ : ∃ p, ksS (wds k) i = p := ⟨_, rfl⟩
      rw [hp] at HKS ⊢
      have hx := u64_bd x
      have hy := u64_bd y
      have E1 := Lib.hid (rnd_fst i x y (by omega))
      have E1m := Lib.hid (rnd_fstm i x y (by omega))
      have E2 := Lib.hid (rnd_snd (UInt64.ofNat i) x y)
      obtain ⟨i0, hi0, hz0, hz1, hz2⟩ := info_parts u64_info
      have HI0 := Lib.hid hi0
      have HI1 := Lib.hid hz0
      have HI2 := Lib.hid hz1
      have HI3 := Lib.hid hz2
      clear hp hi0 hz0 hz1 hz2
      go_wp2_with (first
        | (go_at_call 175; refine (refRotr_8 x _).mono ?_; rintro e w2 ⟨rfl, n2, rfl⟩)
        | (go_at_call 176; refine (refRotl_3 y _).mono ?_; rintro e w3 ⟨rfl, n3, rfl⟩; first | rw [E1.out] | rw [E1m.out])
        | (at_builtin; rw [E2.out]; refine wpList_append_src _ rfl (.tmp 29) (.tmp 31) 210 rfl w.heap.size 81 i0 (.int .u64 0) 1 8 Tryz.underlying210 HI0.out HI1.out HI2.out HI3.out rfl (by omega) A (i + 1) c (cellsU (ksL (wds k) i)) rfl (ownsRow_below HO.out ((below_drewN (Below.refl _ wr) _).alloc (Nat.le_refl _) _))
            (some ⟨wr.heap.size, 0, none⟩) 1 1 [.int .u64 ((rnd (UInt64.ofNat i) (x, y)).2.toNat : Int)] rfl (Src.one _ _ _) (by simp [Value.oneCell']) (by simp only [maxLen]; omega) (by omega) (by have := hbel.size; simp; omega) ?_; intro A2 c2 w5 hon5 hg5 _; have HON5 := Lib.hid hon5; have hb5 := grown_below ((below_drewN hbel (n2 + n3)).alloc hbel.size _) (ownsRow_below HO.out ((below_drewN (Below.refl _ wr) (n2 + n3)).alloc (Nat.le_refl _) _)) hg5 (by have := hbel.size; simp; omega) (Nat.le_refl _); clear hon5 hg5))
      go_roundw
      case rel => exact ⟨i + 1, A2, c2, by omega, by go_num, by rw [HKS.out], by rw [HKS.out], rfl, by rw [HLS.out, cellsU_append, HKS.out]; exact HON5.out, hb5⟩
      case measure => simp [intOf]; omega
    · obtain rfl : i = 31 := by omega
      go_wp2_with fail
      go_ret
      exact ⟨A, c, rfl, Rd.of_own HO.out (by omega), hbel⟩
end Go.Proofs.YtenpkmgbaajeeaaGreat

/- The reference's Encrypt, Derive, Number. -/
namespace Go.Proofs.YtenpkmgbaajeeaaGreat
open Go.RowKit
set_option linter.unusedVariables false
attribute [local go_sem] run_storeCells_key

theorem ksL_at (k : W2) (i : Nat) (h : i < 32) : (cellsU (ksL k 31))[i]? = some (.int .u64 ((ksS k i).2.toNat : Int)) := by
  simp [cellsU, ksL, List.getElem?_range h]
set_option maxHeartbeats 1000000 in
set_option maxRecDepth 100000 in
theorem refEncrypt_any (k b : List UInt8) (w : World) (hk : k.length = 16) (hb : b.length = 16) : Calls Tryz.prog 151 #[.agg (cellsB k).toArray, .agg (cellsB b).toArray] w fun e w' => e = .returned (.agg (cellsB (encS k b)).toArray) ∧ Below w.heap.size w w' := by
  have HK := Lib.hid hk
  have HB := Lib.hid hb
  have hkl : (cellsB k).length = 16 := by rw [cellsB_length, hk]
  have hbl : (cellsB b).length = 16 := by rw [cellsB_length, hb]
  have HZ := Lib.hid zero16
  clear hk hb
  go_enter Tryz.func151, Tryz.ntmps151
  go_wp2_with (first
    | (go_at_call 173; rw [fold16B b HB.out, HZ.out]; refine (refWords_key b _ HB.out).mono ?_; rintro e w1 ⟨rfl, hb1⟩; have hck : ∀ j, w1.cell? ⟨w.heap.size, j, none⟩ = (cellsB k).toArray[j]? := fun j => ((blk_a0 w (cellsB k).toArray 23 _ _).below' hb1).cell j)
    | (go_at_call 174; rw [fold16B k HK.out]; refine (refRoundKeys_any k _ HK.out).mono ?_; rintro e w2 ⟨A, c, rfl, hR, hb2⟩; have HR := Lib.hid hR; clear hR))
  have HB0 : Hid (Blk w2 (w.heap.size + 1 + 1) 23 (cellsB zeroK).toArray) := (((blk_a2 w _ _ (cellsB zeroK).toArray 23).below' hb1)).below' hb2
  have hb02 : Below w.heap.size w w2 := (alloc3_bel w _ _ _).trans ((hb1.trans (hb2.mono hb1.size)).mono (alloc3_bel w _ _ _).size)
  have hs2 : w.heap.size + 1 + 1 < w2.heap.size := HB0.out.lt
  clear hck
  go_loopw [5, 6, 8] (fun vx vy vi wr => ∃ i : Nat, i ≤ 32 ∧ vi = .int .i64 (i : Int) ∧ vx = .int .u64 ((enW (wds k) (wds b) i).1.toNat : Int) ∧ vy = .int .u64 ((enW (wds k) (wds b) i).2.toNat : Int) ∧ Below w2.heap.size w2 wr) (fun _ _ vi _ => 32 - (intOf vi).toNat)
  case atStart => exact ⟨0, by omega, rfl, rfl, rfl, Below.refl _ _⟩
  case round =>
    obtain ⟨i, hi, rfl, rfl, rfl, hbel⟩ := hrel
    by_cases hlt : i < 32
    · have hii : (i : Int) < 32 := by omega
      have HES : Hid (enW (wds k) (wds b) (i + 1) = rnd (ksS (wds k) i).2 (enW (wds k) (wds b) i)) := rfl
      obtain ⟨g, off, rfl, hg, v, hv, hc⟩ := Rd.at1 (HR.out.below hbel) hlt
      rw [ksL_at _ _ hlt] at hv
      injection hv with hv
      subst hv
      obtain ⟨⟨x, y⟩, hp⟩ : ∃ p, enW (wds k) (wds b) i = p := ⟨_, rfl⟩
      obtain ⟨u, hu⟩ : ∃ u, (ksS (wds k) i).2 = u := ⟨_, rfl⟩
      rw [hp, hu] at HES
      rw [hp]
      rw [hu] at hc
      have hx := u64_bd x
      have hy := u64_bd y
      have E1 := Lib.hid (rnd_fstk u x y)
      have E1m := Lib.hid (rnd_fstkm u x y)
      have E2 := Lib.hid (rnd_snd u x y)
      clear hp hu
      go_wp2_with fail
      go_quiet ((go_at_call 175; exact quiet_n (refRotr_8 x _)))
      first | rw [E1.out] | rw [E1m.out] | skip
      go_wp2_with (go_at_call 176; refine (refRotl_3 y _).mono ?_; rintro e w3 ⟨rfl, n3, rfl⟩; first | rw [E1.out] | rw [E1m.out] | skip)
      rw [E2.out]
      go_roundw
      case rel => exact ⟨i + 1, by omega, by go_num, by rw [HES.out], by rw [HES.out], by first | exact below_drewN hbel _ | exact below_drewN (below_drewN hbel _) _⟩
      case measure => simp [intOf]; omega
    · obtain rfl : i = 32 := by omega
      have HE : Hid (encS k b = blk (enW (wds k) (wds b) 32)) := rfl
      obtain ⟨⟨x, y⟩, hp⟩ : ∃ p, enW (wds k) (wds b) 32 = p := ⟨_, rfl⟩
      rw [hp] at HE ⊢
      have hall := all16 (blk (x, y))
      have hl : (cellsB (blk (x, y))).length = 16 := rfl
      clear hp
      go_wp2_with (go_at_call 177; refine (refBlock2_any x y _).mono ?_; rintro e w5 ⟨rfl, hb5⟩; have hB := ((HB0.out.below' hbel).below' hb5); have hr5 : (rowAt w5 (w.heap.size + 1 + 1)).size = 16 := by { rw [hB.row]; rfl }; have hf5 := hB.free; have HB5 := Lib.hid hB; clear hB)
      have hbF : Below w.heap.size w w5 := hb02.trans ((hbel.trans (hb5.mono hbel.size)).mono hb02.size)
      exact bodyPost_ret (results_cell_row rfl _ _ (w.heap.size + 1 + 1) _ _ (0, 0) _ rfl (HB5.out.setRow (cellsB (blk (x, y))).toArray) under_key rfl (cellsB_size _ rfl)) rfl ⟨by rw [HE.out], below_setRow hbF (by omega) _⟩
end Go.Proofs.YtenpkmgbaajeeaaGreat

/- The reference's Derive, Number. -/
namespace Go.Proofs.YtenpkmgbaajeeaaGreat
open Go.RowKit
set_option linter.unusedVariables false
attribute [local go_sem] run_storeCells_key

theorem refTag_zero (t : UInt8) (n : UInt64) (w : World) : Calls Tryz.prog 152 #[.int .u8 (t.toNat : Int), .int .u64 0, .int .u64 (n.toNat : Int)] w fun e w' => e = .returned (.agg (cellsB (tagS t 0 n)).toArray) ∧ Below w.heap.size w w' := refTag_any t 0 n w (by decide)
set_option maxHeartbeats 1000000 in
theorem refDerive_any (k : List UInt8) (t : UInt8) (n : UInt64) (w : World) (hk : k.length = 16) : Calls Tryz.prog 119 #[.agg (cellsB k).toArray, .int .u8 (t.toNat : Int), .int .u64 (n.toNat : Int)] w fun e w' => e = .returned (.agg (cellsB (derS k t n)).toArray) ∧ Below w.heap.size w w' := by
  have HK := Lib.hid hk
  have HZ := Lib.hid zero16
  have hkl : (cellsB k).length = 16 := by rw [cellsB_length, hk]
  have HE : Hid (derS k t n = encS k (tagS t 0 n)) := rfl
  have hl : (cellsB (encS k (tagS t 0 n))).length = 16 := rfl
  have hall := all16 (encS k (tagS t 0 n))
  clear hk
  go_enter Tryz.func119, Tryz.ntmps119
  go_wp2_with fail
  rw [HZ.out]
  go_region_with (first
    | (go_at_call 152; refine (refTag_zero t n _).mono ?_; rintro e w1 ⟨rfl, hb1⟩; have hck : ∀ j, w1.cell? ⟨w.heap.size, j, none⟩ = (cellsB k).toArray[j]? := fun j => ((blk_b0 w (cellsB k).toArray 23 _).drew.below' hb1).cell j)
    | (go_at_call 151; rw [fold16B k HK.out]; refine (refEncrypt_any k (tagS t 0 n) _ HK.out rfl).mono ?_; rintro e w2 ⟨rfl, hb2⟩; have hB2 := ((blk_b1 w (.cells (cellsB k).toArray 23) (cellsB zeroK).toArray 23).drew.below' hb1).below' hb2; have hr2 : (rowAt w2 (w.heap.size + 1)).size = 16 := by { rw [hB2.row]; rfl }; have hf2 := hB2.free; have HB2 := Lib.hid hB2; clear hB2))
  all_goals
    go_wp2_with fail
    exact bodyPost_ret (results_cell_row rfl _ _ (w.heap.size + 1) _ _ (0, 0) _ rfl (HB2.out.setRow (cellsB (encS k (tagS t 0 n))).toArray) under_key rfl (cellsB_size _ rfl)) rfl ⟨by rw [HE.out], below_setRow (((alloc2_bel w _ _).drew.trans (hb1.mono (alloc2_bel w _ _).size)).trans (hb2.mono (Nat.le_trans (alloc2_bel w _ _).size hb1.size))) (by omega) _⟩

end Go.Proofs.YtenpkmgbaajeeaaGreat

/- The reference's Number. -/
namespace Go.Proofs.YtenpkmgbaajeeaaGreat
open Go.RowKit
set_option linter.unusedVariables false
attribute [local go_sem] run_storeCells_key run_storeCells_new

set_option maxHeartbeats 1000000 in
set_option maxRecDepth 100000 in
theorem refNumber_any (k : List UInt8) (n most : UInt64) (w : World) (hk : k.length = 16) : Calls Tryz.prog 135 #[.agg (cellsB k).toArray, .int .u64 (n.toNat : Int), .int .u64 (most.toNat : Int)] w fun e w' => e = .returned (.int .u64 ((numS k n most).toNat : Int)) ∧ Below w.heap.size w w' := by
  have HK := Lib.hid hk
  have hkl : (cellsB k).length = 16 := by rw [cellsB_length, hk]
  by_cases h0 : most = 0
  · subst h0
    have HS : Hid (numS k n 0 = 0) := numS_zero
    have e0 : ((0 : UInt64).toNat : Int) = 0 := rfl
    rw [e0]
    clear hk
    go_enter Tryz.func135, Tryz.ntmps135
    go_wp2_with fail
    go_ret
    exact ⟨by rw [HS.out]; rfl, alloc_bel _ _⟩
  · have HS : Hid (numS k n most = (wds (derS k 3 n)).1 % most) := numS_pos h0
    have hmn : most.toNat ≠ 0 := fun e => h0 (UInt64.toNat_inj.1 (e.trans rfl))
    have hm0 : (most.toNat : Int) ≠ 0 := by omega
    have hm1 : ((most.toNat : Int) == 0) = false := by rw [beq_eq_false_iff_ne]; exact hm0
    have hm2 : (most.toNat == 0) = false := by rw [beq_eq_false_iff_ne]; omega
    have hm3 : ¬ most.toNat = 0 := by omega
    have bm := u64_bd most
    have bx := u64_bd (wds (derS k 3 n)).1
    have HM2 : Hid (((wds (derS k 3 n)).1.toNat : Int) % (most.toNat : Int) = ((((wds (derS k 3 n)).1 % most).toNat : Nat) : Int)) := by
      unfold Hid; rw [UInt64.toNat_mod]; exact (Int.natCast_emod _ _).symm
    have HD : Hid (∀ W, Calls Tryz.prog 119 #[.agg (cellsB k).toArray, .int .u8 3, .int .u64 (n.toNat : Int)] W fun e w' => e = .returned (.agg (cellsB (derS k 3 n)).toArray) ∧ Below W.heap.size W w') := fun W => refDerive_any k 3 n W hk
    obtain ⟨d, hd⟩ : ∃ d, derS k 3 n = d := ⟨_, rfl⟩
    have hdl : Hid (d.length = 16) := by rw [← hd]; rfl
    rw [hd] at HS HM2 HD bx
    have hld : (cellsB d).length = 16 := by rw [cellsB_length]; exact hdl.out
    have hall := all16 d
    have HV : Hid (∀ W, Blk W W.heap.size 23 (cellsB d).toArray → True) := fun _ _ => trivial
    have HW1 : Hid (wd ((d.drop 0).take 8) = (wds d).1) := rfl
    have L1 : Hid (((d.drop 0).take 8).length = 8) := by unfold Hid; have := hdl.out; simp; omega
    clear hk h0 hd hmn hm0 HV
    go_enter Tryz.func135, Tryz.ntmps135
    go_wp2_with (first
      | (go_at_call 119; rw [fold16B k HK.out]; refine (HD.out _).mono ?_; rintro e w1 ⟨rfl, hb1⟩)
      | (go_at_call 162; (with_reducible refine (refValue_any _ _ ((d.drop 0).take 8) _ L1.out ((Blk.new w1 23 (cellsB d).toArray).br 0 8 16 (by have := hdl.out; omega) (by omega) (by omega))).mono ?_); rintro e w2 ⟨rfl, rfl⟩; rw [HW1.out]))
    go_ret
    exact ⟨ret_u64 (by rw [HS.out]; exact HM2.out), (((alloc_bel w _).trans (hb1.mono (alloc_bel w (.cells (cellsB k).toArray 23)).size)).alloc (Nat.le_trans (alloc_bel w (.cells (cellsB k).toArray 23)).size hb1.size) _)⟩
end Go.Proofs.YtenpkmgbaajeeaaGreat
