/-
  Lemmas and contracts, joined.
-/
import Derived.Laws.BitsAllLaws
import Derived.Laws.BitsLemmas
import Derived.StillTailTactics
import Derived.RangeFuncNested
import Derived.RangeFuncBound
import Derived.RangeFuncCalls
import Derived.RangeFuncLeaves
import Derived.RangeFuncBox
import Derived.Shelf.Abstract
import Derived.Shelf.RegionOpen
import Derived.OwnWalkIn
import Derived.TacticsInMore
import Derived.LoopNIn
import Derived.LoopIn
import Derived.Deep.RegionHeld3
import Derived.Laws.IdiomStrings
import Derived.Test.YtchnaimpmegbkaaGreatDoorTfTw1
set_option linter.unusedSimpArgs false
set_option linter.unusedVariables false
set_option linter.unnecessarySimpa false
/- Words of 64 bits: how the walk spells their operations; rotations, as the program and the reference make them. -/
namespace Go.Proofs.YtchnaimpmegbkaaGreatDoor
open Go.RowKit
set_option linter.unusedVariables false

theorem wrap_u64_nat (n : Nat) : IntKind.u64.wrap (n : Int) = ((n % 18446744073709551616 : Nat) : Int) := by
  rw [IntKind.wrap_u64]; omega
theorem u64_bd (x : UInt64) : (x.toNat : Int) ≤ 18446744073709551615 := by have := x.toNat_lt; omega
theorem u64_add (a b : UInt64) : IntKind.u64.wrap ((a.toNat : Int) + (b.toNat : Int)) = ((a + b).toNat : Int) := by
  rw [show (a.toNat : Int) + b.toNat = ((a.toNat + b.toNat : Nat) : Int) from by omega, wrap_u64_nat, UInt64.toNat_add]
theorem u64_or (a b : UInt64) : bits .or .u64 (a.toNat : Int) (b.toNat : Int) = ((a ||| b).toNat : Int) := by
  rw [u64_or_nat _ _ a.toNat_lt b.toNat_lt, UInt64.toNat_or]
theorem u64_xor (a b : UInt64) : bits .xor .u64 (a.toNat : Int) (b.toNat : Int) = ((a ^^^ b).toNat : Int) := by
  rw [u64_xor_nat _ _ a.toNat_lt b.toNat_lt, UInt64.toNat_xor]
theorem u64_shl (x : UInt64) (k : Nat) (hk : k < 64) : IntKind.u64.wrap ((x.toNat : Int) * (2 ^ k : Nat)) = ((x <<< UInt64.ofNat k).toNat : Int) := by
  rw [show (x.toNat : Int) * (2 ^ k : Nat) = ((x.toNat * 2 ^ k : Nat) : Int) from (Int.natCast_mul _ _).symm, wrap_u64_nat, UInt64.toNat_shiftLeft, Nat.shiftLeft_eq]
  simp [UInt64.toNat_ofNat', Nat.mod_eq_of_lt (show k < 18446744073709551616 by omega), Nat.mod_eq_of_lt hk]
theorem u64_shr (x : UInt64) (k : Nat) (hk : k < 64) : (x.toNat : Int) / (2 ^ k : Nat) = ((x >>> UInt64.ofNat k).toNat : Int) := by
  rw [toNat_shr x k hk]; exact (Int.natCast_ediv _ _).symm
theorem u8_wrap64 (x : UInt64) : IntKind.u8.wrap (x.toNat : Int) = ((x.toUInt8).toNat : Int) := by
  rw [IntKind.wrap_u8, UInt64.toNat_toUInt8]; omega
theorem u64_shl8 (x : UInt64) : IntKind.u64.wrap ((x.toNat : Int) * 256) = ((x <<< 8).toNat : Int) := u64_shl x 8 (by omega)
theorem u64_shl56 (x : UInt64) : IntKind.u64.wrap ((x.toNat : Int) * 72057594037927936) = ((x <<< 56).toNat : Int) := u64_shl x 56 (by omega)
theorem u64_shl3 (x : UInt64) : IntKind.u64.wrap ((x.toNat : Int) * 8) = ((x <<< 3).toNat : Int) := u64_shl x 3 (by omega)
theorem u64_shr8 (x : UInt64) : (x.toNat : Int) / (256 : Int) = ((x >>> 8).toNat : Int) := u64_shr x 8 (by omega)
theorem u64_shr61 (x : UInt64) : (x.toNat : Int) / (2305843009213693952 : Int) = ((x >>> 61).toNat : Int) := u64_shr x 61 (by omega)

theorem ret_u64 {a b : Int} (h : a = b) : Ending.returned (.int .u64 a) = .returned (.int .u64 b) := by rw [h]

/-- A rotation by k bits to the left, as both make it. -/
theorem rot_r8 (x : UInt64) : bits .or .u64 (IntKind.u64.wrap ((x.toNat : Int) * 72057594037927936)) ((x.toNat : Int) / 256) = ((rotr8 x).toNat : Int) := by
  rw [u64_shl56, u64_shr8, u64_or, rotr8, UInt64.or_comm]
theorem rot_l3 (x : UInt64) : bits .or .u64 (IntKind.u64.wrap ((x.toNat : Int) * 8)) ((x.toNat : Int) / 2305843009213693952) = ((rotl3 x).toNat : Int) := by
  rw [u64_shl3, u64_shr61, u64_or, rotl3]
set_option maxHeartbeats 400000 in
theorem RotateLeft64_r8 (x : UInt64) (w : World) : Calls Tryz.prog 124 #[.int .u64 (x.toNat : Int), .int .i64 (-8)] w fun e w' => e = .returned (.int .u64 ((rotr8 x).toNat : Int)) ∧ w = w' := by
  have hx := u64_bd x
  have hk : bits BinOp.and IntKind.u64 (IntKind.u64.wrap (-8)) 63 = 56 := by kernel_rfl
  go_enter Tryz.func124, Tryz.ntmps124
  go_wp2_with fail
  go_ret
  exact ⟨ret_u64 (rot_r8 x), rfl⟩
set_option maxHeartbeats 400000 in
theorem RotateLeft64_l3 (x : UInt64) (w : World) : Calls Tryz.prog 124 #[.int .u64 (x.toNat : Int), .int .i64 3] w fun e w' => e = .returned (.int .u64 ((rotl3 x).toNat : Int)) ∧ w = w' := by
  have hx := u64_bd x
  have hk : bits BinOp.and IntKind.u64 3 63 = 3 := by kernel_rfl
  go_enter Tryz.func124, Tryz.ntmps124
  go_wp2_with fail
  go_ret
  exact ⟨ret_u64 (rot_l3 x), rfl⟩

end Go.Proofs.YtchnaimpmegbkaaGreatDoor

/- The block cipher of the program: words, blocks, rounds. -/
namespace Go.Proofs.YtchnaimpmegbkaaGreatDoor
open Go.RowKit
set_option linter.unusedVariables false

theorem wd_take_succ {l : List UInt8} {k : Nat} (h : k < l.length) : wd (l.take (k + 1)) = (wd (l.take k) <<< 8 ||| (l.getD k 0).toUInt64) := by
  rw [List.take_succ_eq_append_getElem h, wd_snoc, shl8_or]
  simp [List.getD, List.getElem?_eq_getElem h]
theorem shl8_or_u8 (x : UInt64) (c : UInt8) : bits .or .u64 (IntKind.u64.wrap ((x.toNat : Int) * 256)) (c.toNat : Int) = ((x <<< 8 ||| c.toUInt64).toNat : Int) := by
  rw [u64_shl8, show (c.toNat : Int) = (c.toUInt64.toNat : Int) from by rw [UInt8.toNat_toUInt64], u64_or]
set_option maxHeartbeats 1000000 in
theorem wordsOf_any (b : List UInt8) (w : World) (hb : b.length = 16) : Calls Tryz.prog 94 #[.agg (cellsB b).toArray] w fun e w' => e = .returned (.agg #[.int .u64 ((wds b).1.toNat : Int), .int .u64 ((wds b).2.toNat : Int)]) ∧ Below w.heap.size w w' := by
  have HB := Lib.hid hb
  clear hb
  go_enter Tryz.func94, Tryz.ntmps94
  go_wp2_with fail
  go_loopw [5] (fun vk wr => ∃ (k : Nat) (x y : UInt64), k ≤ 8 ∧ vk = .int .i64 k ∧ Hid (x = wd (b.take k) ∧ y = wd ((b.drop 8).take k)) ∧ Blk wr w.heap.size 23 (cellsB b).toArray ∧
      Blk wr (w.heap.size + 1) 153 #[.int .u64 0, .int .u64 0] ∧ Blk wr (w.heap.size + 1 + 1) 153 #[.int .u64 (x.toNat : Int), .int .u64 (y.toNat : Int)] ∧ Below w.heap.size w wr) (fun vk _ => 8 - (intOf vk).toNat)
  case atStart => exact ⟨0, 0, 0, by omega, rfl, ⟨rfl, rfl⟩, blk_a0 _ _ _ _ _, blk_a1 _ _ _ _ _, blk_a2 _ _ _ _ _, alloc3_bel _ _ _ _⟩
  case round =>
    obtain ⟨k, x, y, hk, rfl, HX, hB1, hB2, hB3, hbel⟩ := hrel
    by_cases hk8 : k < 8
    · have c0 := hB3.cell 0
      have c1 := hB3.cell 1
      have f0 := hB3.frozen 0
      have f1 := hB3.frozen 1
      simp only [List.getElem?_toArray, List.getElem?_cons_zero, List.getElem?_cons_succ] at c0 c1
      have d0 := (hB1.cell k).trans (bytes_get b k (by have := HB.out; omega))
      have d1 := (hB1.cell (8 + k)).trans (bytes_get b (8 + k) (by have := HB.out; omega))
      generalize hv0 : b.getD k 0 = v0 at *
      generalize hv1 : b.getD (8 + k) 0 = v1 at *
      have HV := Lib.hid (And.intro hv0 hv1)
      clear hv0 hv1
      have hbx := u64_bd x
      have hby := u64_bd y
      have hki : (k : Int) < 8 := by omega
      have hv0' : (v0.toNat : Int) ≤ 255 := by have := v0.toNat_lt; omega
      have hv1' : (v1.toNat : Int) ≤ 255 := by have := v1.toNat_lt; omega
      go_wp2_with fail
      go_region
      have e1 := shl8_or_u8 x v0
      have e2 := shl8_or_u8 y v1
      rw [e1, e2]
      have hB4 := Lib.hid ((hB3.set_ 0 (.int .u64 ((x <<< 8 ||| v0.toUInt64).toNat : Int))).set_ 1 (.int .u64 ((y <<< 8 ||| v1.toUInt64).toNat : Int)))
      clear e1 e2 c0 c1 f0 f1 d0 d1
      go_wp2_with fail
      go_roundw
      case rel =>
        refine ⟨k + 1, x <<< 8 ||| v0.toUInt64, y <<< 8 ||| v1.toUInt64, by omega, by go_num, ?_, (((hB1.far (p := ⟨w.heap.size + 1 + 1, 0, none⟩) (by simp; omega) _).far (p := ⟨w.heap.size + 1 + 1, 1, none⟩) (by simp; omega) _)).drew,
          ((hB2.far (p := ⟨w.heap.size + 1 + 1, 0, none⟩) (by simp) _).far (p := ⟨w.heap.size + 1 + 1, 1, none⟩) (by simp) _).drew, Blk.drew (by simpa using hB4.out), ((hbel.setCell (p := ⟨w.heap.size + 1 + 1, 0, none⟩) (by simp; omega) _).setCell (p := ⟨w.heap.size + 1 + 1, 1, none⟩) (by simp; omega) _).drew⟩
        obtain ⟨h1, h2⟩ := HX.out
        obtain ⟨g1, g2⟩ := HV.out
        refine ⟨?_, ?_⟩
        · rw [wd_take_succ (by have := HB.out; omega), h1, g1]
        · rw [wd_take_succ (by have := HB.out; simp; omega), h2, ← g2]
          congr 2
          simp [List.getD, List.getElem?_drop]
      case measure => simp [intOf]; omega
    · obtain rfl : k = 8 := by omega
      have c0 := hB3.cell 0
      have c1 := hB3.cell 1
      have r0 := hB2.cell 0
      have r1 := hB2.cell 1
      have f0 := hB2.frozen 0
      have f1 := hB2.frozen 1
      simp only [List.getElem?_toArray, List.getElem?_cons_zero, List.getElem?_cons_succ] at c0 c1 r0 r1
      have HE : Hid (x = (wds b).1 ∧ y = (wds b).2) := by
        obtain ⟨h1, h2⟩ := HX.out
        refine ⟨h1, ?_⟩
        rw [h2, List.take_of_length_le (by have := HB.out; simp; omega)]
        rfl
      go_wp2_with fail
      have hB5 : Blk ((wr.setCell ⟨w.heap.size + 1, 0, none⟩ (.int .u64 (x.toNat : Int))).setCell ⟨w.heap.size + 1, 1, none⟩ (.int .u64 (y.toNat : Int))) (w.heap.size + 1) 153 #[.int .u64 (x.toNat : Int), .int .u64 (y.toNat : Int)] := by
        simpa using (hB2.set_ 0 (.int .u64 (x.toNat : Int))).set_ 1 (.int .u64 (y.toNat : Int))
      refine bodyPost_ret (results_cell_row rfl _ _ (w.heap.size + 1) _ _ (0, 0) _ rfl hB5 Tryz.underlying153 rfl (by kernel_rfl)) rfl ⟨?_, ?_⟩
      · rw [HE.out.1, HE.out.2]
      · exact (hbel.setCell (p := ⟨w.heap.size + 1, 0, none⟩) (by simp) _).setCell (p := ⟨w.heap.size + 1, 1, none⟩) (by simp) _

set_option maxHeartbeats 1000000 in
theorem round_any (p : W2) (k : UInt64) (w : World) : Calls Tryz.prog 96 #[.agg #[.int .u64 (p.1.toNat : Int), .int .u64 (p.2.toNat : Int)], .int .u64 (k.toNat : Int)] w fun e w' => e = .returned (.agg #[.int .u64 ((rnd k p).1.toNat : Int), .int .u64 ((rnd k p).2.toNat : Int)]) ∧ Below w.heap.size w w' := by
  obtain ⟨x, y⟩ := p
  dsimp only
  have hx := u64_bd x
  have hy := u64_bd y
  have hk := u64_bd k
  have HE : Hid (((rotr8 x + y) ^^^ k) = (rnd k (x, y)).1 ∧ (rotl3 y ^^^ ((rotr8 x + y) ^^^ k)) = (rnd k (x, y)).2) := ⟨rfl, rfl⟩
  go_enter Tryz.func96, Tryz.ntmps96
  go_wp2_with fail
  go_quiet ((go_at_call 124; exact quiet_left' (RotateLeft64_r8 x _)))
  go_wp2_with (go_at_call 124; refine (RotateLeft64_l3 y _).mono ?_; rintro e w1 ⟨rfl, rfl⟩)
  simp only [u64_add, u64_xor]
  rw [HE.out.2, HE.out.1]
  exact bodyPost_ret (v := .agg #[.int .u64 ((rnd k (x, y)).1.toNat : Int), .int .u64 ((rnd k (x, y)).2.toNat : Int)]) (by simp [results, Tryz.results96, go_sem]) rfl
    ⟨rfl, ((below_drewN ((alloc_bel _ _).alloc (by simp) _) _).setCell (p := ⟨w.heap.size + 1, 0, none⟩) (by simp) _).setCell (p := ⟨w.heap.size + 1, 1, none⟩) (by simp) _⟩

/-- The block after k rounds. -/
def stB (p : W2) (k : Nat) : List UInt8 := (List.range 16).map fun j => if j < 8 then (if j < k then (by8 p.1).getD j 0 else 0) else (if j - 8 < k then (by8 p.2).getD (j - 8) 0 else 0)
theorem stB_step (p : W2) (k : Nat) (hk : k < 8) : ((stB p k).set k ((by8 p.1).getD k 0)).set (8 + k) ((by8 p.2).getD k 0) = stB p (k + 1) := by
  match k, hk with
  | 0, _ => rfl
  | 1, _ => rfl
  | 2, _ => rfl
  | 3, _ => rfl
  | 4, _ => rfl
  | 5, _ => rfl
  | 6, _ => rfl
  | 7, _ => rfl
theorem stB_fin (p : W2) : stB p 8 = blk p := rfl
theorem stB_length (p : W2) (k : Nat) : (stB p k).length = 16 := by simp [stB]
theorem by8_getD (x : UInt64) (k : Nat) (hk : k < 8) : (by8 x).getD k 0 = (x >>> UInt64.ofNat (56 - 8 * k)).toUInt8 := by
  match k, hk with
  | 0, _ => rfl
  | 1, _ => rfl
  | 2, _ => rfl
  | 3, _ => rfl
  | 4, _ => rfl
  | 5, _ => rfl
  | 6, _ => rfl
  | 7, _ =>
    show x.toUInt8 = (x >>> 0).toUInt8
    simp
theorem byte_at (x : UInt64) (m : Nat) (hm : m < 64) : (x.toNat : Int) / 2 ^ m % 256 = (((x >>> UInt64.ofNat m).toUInt8).toNat : Int) := by
  rw [← u8_wrap64, ← u64_shr x m hm, IntKind.wrap_u8]
  congr 2
theorem bytes_set (l : List UInt8) (i : Nat) (x : UInt8) : (cellsB l).toArray.setIfInBounds i (.int .u8 (x.toNat : Int)) = (cellsB (l.set i x)).toArray := by
  rw [cellsB_set]; simp
theorem zero16 : (#[.int .u8 0, .int .u8 0, .int .u8 0, .int .u8 0, .int .u8 0, .int .u8 0, .int .u8 0, .int .u8 0, .int .u8 0, .int .u8 0, .int .u8 0, .int .u8 0, .int .u8 0, .int .u8 0, .int .u8 0, .int .u8 0] : Array Value) = (cellsB zeroK).toArray := rfl
theorem under_key : Tryz.prog.underlying 23 = some (.array 16 5) := Tryz.underlying23
theorem info_key : (Tryz.prog.info? 23).map (·.size) = some 16 := by kernel_rfl
theorem cellsB_sizes (a b : List UInt8) (ha : a.length = 16) (hb : b.length = 16) : (cellsB a).toArray.size = (cellsB b).toArray.size := by simp [cellsB, ha, hb]
theorem cellsB_all (l : List UInt8) : (cellsB l).toArray.all (·.oneCell') = true := by
  rw [Array.all_eq_true_iff_forall_mem]
  intro x hx
  exact cellsB_one l x (by simpa using hx)
theorem cellsB_size (l : List UInt8) (h : l.length = 16) : (Tryz.prog.info? 23).map (·.size) = some (cellsB l).toArray.size := by rw [info_key]; simp [cellsB, h]

set_option maxHeartbeats 1000000 in
theorem block_any (p : W2) (w : World) : Calls Tryz.prog 97 #[.agg #[.int .u64 (p.1.toNat : Int), .int .u64 (p.2.toNat : Int)]] w fun e w' => e = .returned (.agg (cellsB (blk p)).toArray) ∧ Below w.heap.size w w' := by
  have HZ := Lib.hid zero16
  go_enter Tryz.func97, Tryz.ntmps97
  go_wp2_with fail
  rw [HZ.out]
  go_loopw [5] (fun vk wr => ∃ k : Nat, k ≤ 8 ∧ vk = .int .i64 k ∧ Blk wr w.heap.size 153 #[.int .u64 (p.1.toNat : Int), .int .u64 (p.2.toNat : Int)] ∧
      Blk wr (w.heap.size + 1) 23 (cellsB zeroK).toArray ∧ Blk wr (w.heap.size + 1 + 1) 23 (cellsB (stB p k)).toArray ∧ Below w.heap.size w wr) (fun vk _ => 8 - (intOf vk).toNat)
  case atStart => exact ⟨0, by omega, rfl, blk_a0 _ _ _ _ _, blk_a1 _ _ _ _ _, blk_a2 _ _ _ _ _, alloc3_bel _ _ _ _⟩
  case round =>
    obtain ⟨k, hk, rfl, hB1, hB2, hB3, hbel⟩ := hrel
    by_cases hk8 : k < 8
    · obtain ⟨m, hm⟩ : ∃ m, 56 - 8 * k = m := ⟨_, rfl⟩
      have hmi : (56 : Int) - 8 * k = m := by omega
      have hm0 : (m : Int) ≤ 56 := by omega
      have c0 := hB1.cell 0
      have c1 := hB1.cell 1
      simp only [List.getElem?_toArray, List.getElem?_cons_zero, List.getElem?_cons_succ] at c0 c1
      have d0 := (hB3.cell k).trans (bytes_get _ k (by rw [stB_length]; omega))
      have d1 := (hB3.cell (8 + k)).trans (bytes_get _ (8 + k) (by rw [stB_length]; omega))
      have f0 := hB3.frozen k
      have f1 := hB3.frozen (8 + k)
      have hx := u64_bd p.1
      have hy := u64_bd p.2
      have hki : (k : Int) < 8 := by omega
      have HS := Lib.hid (stB_step p k hk8)
      have HY1 : Hid ((p.1.toNat : Int) / 2 ^ m % 256 = (((by8 p.1).getD k 0).toNat : Int)) := by unfold Hid; rw [byte_at _ _ (by omega), by8_getD _ _ hk8, hm]
      have HY2 : Hid ((p.2.toNat : Int) / 2 ^ m % 256 = (((by8 p.2).getD k 0).toNat : Int)) := by unfold Hid; rw [byte_at _ _ (by omega), by8_getD _ _ hk8, hm]
      clear hm
      go_wp2_with fail
      go_region
      rw [HY1.out, HY2.out]
      have hB4 := (hB3.set_ k (.int .u8 (((by8 p.1).getD k 0).toNat : Int))).set_ (8 + k) (.int .u8 (((by8 p.2).getD k 0).toNat : Int))
      rw [bytes_set, bytes_set, HS.out] at hB4
      have HB4 := Lib.hid hB4
      clear hB4 c0 c1 d0 d1 f0 f1
      go_wp2_with fail
      go_roundw
      case rel => exact ⟨k + 1, by omega, by go_num, ((hB1.far (p := ⟨w.heap.size + 1 + 1, k, none⟩) (by simp; omega) _).far (p := ⟨w.heap.size + 1 + 1, 8 + k, none⟩) (by simp; omega) _).drew,
          ((hB2.far (p := ⟨w.heap.size + 1 + 1, k, none⟩) (by simp) _).far (p := ⟨w.heap.size + 1 + 1, 8 + k, none⟩) (by simp) _).drew, HB4.out.drew, ((hbel.setCell (p := ⟨w.heap.size + 1 + 1, k, none⟩) (by simp; omega) _).setCell (p := ⟨w.heap.size + 1 + 1, 8 + k, none⟩) (by simp; omega) _).drew⟩
      case measure => simp [intOf]; omega
    · obtain rfl : k = 8 := by omega
      rw [stB_fin] at hB3
      have hL : (blk p).length = 16 := rfl
      go_wp2_with (first
        | (refine wpList_load_row rfl 23 (.tmp 3) rfl (w.heap.size + 1 + 1) rfl 23 (cellsB (blk p)).toArray (0, 0) _ hB3 under_key rfl (cellsB_size _ hL) ?_)
        | (refine wpList_store_row rfl 23 (.tmp 2) (.tmp 28) rfl (w.heap.size + 1) (cellsB (blk p)).toArray rfl rfl 23 (cellsB zeroK).toArray hB2 (cellsB_size _ hL) (cellsB_sizes _ _ zeroK_length hL) (cellsB_all _) ?_))
      have hB5 := hB2.setRow (cellsB (blk p)).toArray
      refine bodyPost_ret (results_cell_row rfl _ _ (w.heap.size + 1) _ _ (0, 0) _ rfl hB5 under_key rfl (cellsB_size _ hL)) rfl ⟨rfl, below_setRow hbel (by omega) _⟩
end Go.Proofs.YtchnaimpmegbkaaGreatDoor

/- A range over a function whose iterator keeps a variable of its own in memory, the body being left in no way but its end: the law, for whatever invariant of the caller's that speaks of what lay ahead of the loop. -/
namespace Go.Proofs.YtchnaimpmegbkaaGreatDoor
open Go.RowKit Go.Shelf
set_option linter.unusedVariables false

/-- What holds through new blocks, and through writes to blocks from B on. -/
def HoldsFrom {β : Type} (B : Nat) (J : β → World → Prop) : Prop := ∀ s X Y row, J s X → X.grownBy Y row → (∀ r, row = some r → B ≤ r) → J s Y
theorem HoldsFrom.put {β : Type} {B : Nat} {J : β → World → Prop} (h : HoldsFrom B J) {s : β} {W : World} (hs : J s W) {l : Nat} (hl : B ≤ l) (o : Obj) : J s (W.putObj l o) :=
  h s W _ (some l) hs (grownBy_putObj' W l o) fun r e => by cases e; exact hl
theorem HoldsFrom.more {β : Type} {B : Nat} {J : β → World → Prop} (h : HoldsFrom B J) {s : β} {W : World} (hs : J s W) (o : Obj) : J s (W.alloc o) := h s W _ none hs (World.grownBy_alloc W o none) fun r e => by cases e
/-- What an iterator does: the elements of xs come, one by one. -/
def Brings {α : Type} (F : Fence) (n : Nat) (P : Program) (g : Nat) (lb : Array Value) (encs : α → Array Value) (Kp : World → World → Prop) (xs : List α) (w : World) : Prop :=
  ∀ (l : Nat) (J : List α → World → Prop) (W : World), Below w.heap.size w W → HoldsFrom W.heap.size J →
    (∀ pre x W1, J pre W1 → (∃ rest, xs = pre ++ x :: rest) → YieldAt F (n - 1) P l (encs x) W1 fun e W' => e = .returned (.bool true) ∧ J (pre ++ [x]) W' ∧ Kp W1 W') →
    J [] W → CallsIn F n P g (#[.func (.yield l) #[] #[]] ++ lb) W fun e W' => (∃ v, e = .returned v) ∧ J xs W'

def AtEnd (R : World → Prop) : Exit → Act → World → Prop
  | .normal, _, W => R W
  | _, _, _ => False

theorem wpIn_range_box {P : Program} {F : Fence} {n : Nat} {α : Type} {g : Operand} {ps : Array Tmp} {assign body : Code} {Q : Exit → Act → World → Prop} {a : Act} {w : World}
    (hro : F.round = none) (h1 : 1 ≤ n) {gf : Nat} {lb : Array Value} (hg : a.eval g = .func (.func gf) #[] lb) (hFg : F.fn gf) (eg : ∀ args w, (callFunc gf args).run P w = .ok (.enter gf args) w)
    {encs : α → Array Value} {Kp : World → World → Prop} {xs : List α} {w0 : World} (hseq : Brings F (n - 1) P gf lb encs Kp xs w0)
    (hKt : ∀ {X Y Z : World}, Kp X Y → Kp Y Z → Kp X Z) (hKb : ∀ (W : World) (l : Nat) (o o' : Obj), w.heap.size ≤ l → W.heap[l]? = some o → o.isCells = false → Kp W (W.putObj l o')) (hb0 : Below w0.heap.size w0 w) (hps : ∀ x, (encs x).size = ps.size)
    (I : List α → World → Prop) (hI : HoldsFrom w.heap.size I) (h0 : I [] w) (a₁ : α → Act)
    (hassign : ∀ (l : Nat) (x : α) (W : World) (K : Act → World → Prop), K (a₁ x) W →
      assign.wpIn (F.inRound l) (n - 1 - 1) P (Exit.then K (fun _ _ _ => False)) { tmps := (ps.zip (encs x)).foldl (fun t (p, v) => t.setIfInBounds p v) a.tmps, defers := [] } W)
    (hbody : ∀ (l : Nat) (pre : List α) (x : α) (W : World), I pre W → (∃ rest, xs = pre ++ x :: rest) → body.wpIn (F.inRound l) (n - 1 - 1) P (AtEnd fun W' => KeepsFrom w.heap.size W W' ∧ Kp W W' ∧ I (pre ++ [x]) W') (a₁ x) W)
    (hdone : ∀ (D : Nat) (W : World), w.heap.size ≤ D → I xs W → W.heap[D]? = some (.deferred (some [])) → Q .normal { a with defers := { target := .collected D, args := #[] } :: a.defers } W) :
    (Code.rangeFunc g ps assign body).wpIn F n P Q a w := by
  refine wpIn_rangeFunc fun fn hfn => ?_
  rw [hro]
  let rec_ : LoopState → Option Code → Loop := fun st pe => { state := st, pending := pe, fn := fn, tmps := a.tmps, params := ps, assign := assign, body := body, defers := w.heap.size }
  have s1 : ((w.alloc (.deferred (some []))).alloc (.loop (rec_ .ready none))).heap.size = w.heap.size + 1 + 1 := by simp
  generalize hW1 : (w.alloc (.deferred (some []))).alloc (.loop (rec_ .ready none)) = W1 at s1
  have hL1 : W1.heap[w.heap.size + 1]? = some (.loop (rec_ .ready none)) := by
    rw [← hW1]; have := World.alloc_heap_new (w.alloc (.deferred (some []))) (.loop (rec_ .ready none)); rwa [World.size_alloc] at this
  have hK1 : W1.heap[w.heap.size]? = some (.deferred (some [])) := by
    rw [← hW1]; exact (Below.heap_alloc _ _ _ (by simp)).trans (World.alloc_heap_new w _)
  have hI1 : I [] W1 := by rw [← hW1]; exact hI.more (hI.more h0 _) _
  have hb1 : Below w0.heap.size w0 W1 := by rw [← hW1]; exact hb0.trans ((alloc2_bel w _ _).mono hb0.size)
  refine ⟨w.heap.size + 1, [{ target := .collected w.heap.size, args := #[] }], W1, { target := .fn (.func gf) lb, args := #[.func (.yield (w.heap.size + 1)) #[] #[]] }, W1, gf, #[.func (.yield (w.heap.size + 1)) #[] #[]] ++ lb, W1, ?_, ?_, ?_, ?_, fun _ => h1, ?_⟩
  · rw [← hW1]; exact run_enterLoop_outer _ _ _ _ _
  · simp only [resolve, hg]
    simp [go_sem]
  · intro f' hf'; simp [Target.leads] at hf'; subst hf'; exact hFg
  · simp [invoke, go_sem, eg]
  · refine (hseq (w.heap.size + 1) (fun pre W => I pre W ∧ W.heap[w.heap.size + 1]? = some (.loop (rec_ .ready none)) ∧ W.heap[w.heap.size]? = some (.deferred (some []))) W1 hb1 ?_ ?_ ⟨hI1, hL1, hK1⟩).mono ?_
    · rintro s X Y row ⟨j1, j2, j3⟩ hgr hrow
      have lt : ∀ k o, k ≤ w.heap.size + 1 → X.heap[k]? = some o → Y.heap[k]? = some o := fun k o hk ho =>
        (hgr.block k (Array.getElem?_eq_some_iff.1 ho).1 (fun e => by have := hrow k e.symm; omega)).trans ho
      exact ⟨hI s X Y row j1 hgr (fun r e => by have := hrow r e; omega), lt _ _ (by omega) j2, lt _ _ (by omega) j3⟩
    · rintro pre x W ⟨hi, hl, hk⟩ hrest
      have hlt : w.heap.size + 1 < W.heap.size := (Array.getElem?_eq_some_iff.1 hl).1
      refine ⟨fn, _, assign, body, run_yield (P := P) (args := encs x) hl (hps x), roundIn_of_wpIn hfn (hassign _ x W _ ⟨_, run_beginRound hl rfl, ?_⟩)⟩
      have hl2 : (W.putObj (w.heap.size + 1) (.loop { rec_ .ready none with state := .busy })).heap[w.heap.size + 1]? = some (.loop { rec_ .ready none with state := .busy }) := World.putObj_heap_same hlt
      have hk2 : (W.putObj (w.heap.size + 1) (.loop { rec_ .ready none with state := .busy })).heap[w.heap.size]? = some (.deferred (some [])) := (World.putObj_heap_other (by omega)).trans hk
      refine wpIn_mono (hbody _ pre x _ (hI.put hi (by omega) _) hrest) ?_
      rintro e a3 W3 hp
      cases e with
      | normal =>
        obtain ⟨hk3, hkp3, hi3⟩ := hp
        have hl3 := hk3.same _ _ (by omega) hl2 rfl
        have hd3 := hk3.same _ _ (Nat.le_refl _) hk2 rfl
        exact ⟨_, _, run_endRound (P := P) none hl3, rfl, ⟨hI.put hi3 (by omega) _, World.putObj_heap_same (Array.getElem?_eq_some_iff.1 hl3).1, (World.putObj_heap_other (by omega)).trans hd3⟩,
          hKt (hKt (hKb _ _ _ _ (by omega) hl rfl) hkp3) (hKb _ _ _ _ (by omega) hl3 rfl)⟩
      | _ => exact hp.elim
    · rintro e W2 ⟨⟨v, rfl⟩, hi, hl, hk⟩
      exact ⟨none, _, run_endLoop (P := P) hl (by simp [rec_]), hdone _ _ (Nat.le_refl _) (hI.put hi (by omega) _) ((World.putObj_heap_other (by omega)).trans hk)⟩
end Go.Proofs.YtchnaimpmegbkaaGreatDoor

/- The round keys, as the iterator brings them. -/
namespace Go.Proofs.YtchnaimpmegbkaaGreatDoor
open Go.RowKit Go.Shelf
set_option linter.unusedVariables false
attribute [local go_sem] Oper.semAt_some

theorem round_nat (p : W2) (i : Nat) (hi : i < 32) (w : World) : Calls Tryz.prog 96 #[.agg #[.int .u64 (p.1.toNat : Int), .int .u64 (p.2.toNat : Int)], .int .u64 (i : Int)] w fun e w' => e = .returned (.agg #[.int .u64 ((rnd (UInt64.ofNat i) p).1.toNat : Int), .int .u64 ((rnd (UInt64.ofNat i) p).2.toNat : Int)]) ∧ Below w.heap.size w w' := by
  have e : ((UInt64.ofNat i).toNat : Int) = (i : Int) := by
    rw [UInt64.toNat_ofNat', Nat.mod_eq_of_lt (by omega)]
  have := round_any p (UInt64.ofNat i) w
  rw [e] at this
  exact this

/-- What a round keeps: cells from M on. -/
def KpM (M : Nat) (W W' : World) : Prop := ∀ k cs t fr, M ≤ k → W.heap[k]? = some (.cells cs t fr) → W'.heap[k]? = W.heap[k]?
theorem KpM.trans {M : Nat} {X Y Z : World} (h : KpM M X Y) (k : KpM M Y Z) : KpM M X Z := fun i cs t fr hi hx => by
  have h1 := h i cs t fr hi hx
  exact (k i cs t fr hi (h1.trans hx)).trans h1
theorem KpM.put {M : Nat} (W : World) (l : Nat) (o o' : Obj) (h : W.heap[l]? = some o) (ho : o.isCells = false) : KpM M W (W.putObj l o') := fun k cs t fr hk hx => by
  refine World.putObj_heap_other (fun e => ?_)
  subst e
  rw [h] at hx
  injection hx with hx
  rw [hx] at ho
  simp [Obj.isCells] at ho
theorem below_grown {w w' : World} (h : Below w.heap.size w w') : w.grownBy w' none := ⟨h.os, h.tape, h.output, h.size, fun k hk _ => h.block k hk⟩

theorem range_part (n i : Nat) (h : i < n) : ∃ rest, List.range n = List.range i ++ i :: rest := by
  obtain ⟨m, rfl⟩ : ∃ m, n = i + 1 + m := ⟨n - (i + 1), by omega⟩
  exact ⟨(List.range m).map (i + 1 + ·), by rw [List.range_add, List.range_succ]; simp⟩
/-- The key's number i, as the iterator hands it over. -/
def keyE (k : W2) (i : Nat) : Array Value := #[.int .i64 (i : Int), .int .u64 ((ksS k i).2.toNat : Int)]
set_option maxRecDepth 100000 in
set_option maxHeartbeats 2000000 in
theorem keys1_in (F : Fence) (n M : Nat) (hfn : ∀ f, F.fn f) (hro : F.round = none) (hn : 1 ≤ n)
    (conv : ∀ (f : FuncId) (args : Array Value) (W : World) (R : Ending → World → Prop) (n : Nat), Calls Tryz.prog f args W R → CallsIn F n Tryz.prog f args W R)
    (Bs : Nat) (k : List UInt8) (hk : k.length = 16) (w : World) (hB : Blk w Bs 23 (cellsB k).toArray) (hM : M ≤ w.heap.size) :
    Brings F n Tryz.prog 123 #[.pointer (some ⟨Bs, 0, none⟩)] (keyE (wds k)) (KpM M) (List.range 32) w := by
  intro l J W hW hJ hY h0
  have hBW : Blk W Bs 23 (cellsB k).toArray := hB.below hW hB.lt
  have hcell : ∀ j, W.cell? ⟨Bs, j, none⟩ = (cellsB k).toArray[j]? := fun j => hBW.cell j
  have hkl : (cellsB k).length = 16 := by rw [cellsB_length, hk]
  have HK := Lib.hid hk
  have HMW : Hid (M ≤ W.heap.size) := by have := hW.size; unfold Hid; omega
  have HYY := Lib.hid hY
  have HJJ := Lib.hid hJ
  have H0 := Lib.hid h0
  have CW : Hid (CallsIn F (n - 1) Tryz.prog 94 #[.agg (cellsB k).toArray] W fun e w' => e = .returned (.agg #[.int .u64 ((wds k).1.toNat : Int), .int .u64 ((wds k).2.toNat : Int)]) ∧ Below W.heap.size W w') := conv _ _ _ _ _ (wordsOf_any k W hk)
  have CR : Hid (∀ (p : W2) (i : Nat), i < 32 → ∀ W', CallsIn F (n - 1) Tryz.prog 96 #[.agg #[.int .u64 (p.1.toNat : Int), .int .u64 (p.2.toNat : Int)], .int .u64 (i : Int)] W' fun e w' => e = .returned (.agg #[.int .u64 ((rnd (UInt64.ofNat i) p).1.toNat : Int), .int .u64 ((rnd (UInt64.ofNat i) p).2.toNat : Int)]) ∧ Below W'.heap.size W' w') := fun p i hi W' => conv _ _ _ _ _ (round_nat p i hi W')
  clear hk hB hM hBW hY hJ h0 hW
  refine callsIn_of_wp Tryz.func123 rfl (hfn _) ?_ hro
  simp only [Tryz.ntmps123, List.size_toArray, List.length_cons, List.length_nil, Nat.reduceAdd, Nat.reduceSub, Array.replicate_succ, Array.replicate_zero, List.push_toArray, List.append_toArray, List.nil_append, List.cons_append]
  gi_wp2_with (gi_at_call 94; rw [fold16B k HK.out]; refine CW.out.mono ?_; rintro e w1 ⟨rfl, hb1⟩)
  have hs1 : M ≤ w1.heap.size := by have := HMW.out; have := hb1.size; omega
  have hsW : W.heap.size ≤ w1.heap.size := hb1.size
  gi_loopw [7] (fun vi wr => ∃ i : Nat, i ≤ 32 ∧ vi = .int .i64 (i : Int) ∧ J (List.range i) wr ∧ Blk wr w1.heap.size 153 #[.int .u64 ((ksS (wds k) i).1.toNat : Int), .int .u64 ((ksS (wds k) i).2.toNat : Int)]) (fun vi _ => 32 - (intOf vi).toNat)
  case atStart =>
    exact ⟨0, by omega, rfl, HJJ.out.more (HJJ.out _ _ _ none H0.out (below_grown hb1) (fun r e => by cases e)) _, Blk.new _ _ _⟩
  case round =>
    obtain ⟨i, hi, rfl, hJ, hB⟩ := hrel
    by_cases hlt : i < 32
    · have c0 := hB.cell 0
      have c1 := hB.cell 1
      simp only [List.getElem?_toArray, List.getElem?_cons_zero, List.getElem?_cons_succ] at c0 c1
      obtain ⟨fn, tmps, assign, body, hy, hR2⟩ := HYY.out _ i wr hJ (range_part 32 i hlt)
      have HR2 := Lib.hid hR2
      unfold keyE at hy
      have hii : (i : Int) < 32 := by omega
      have HRS : Hid (List.range (i + 1) = List.range i ++ [i]) := List.range_succ
      obtain ⟨p, hp⟩ : ∃ p, ksS (wds k) i = p := ⟨_, rfl⟩
      have HP : Hid (ksS (wds k) (i + 1) = rnd (UInt64.ofNat i) p) := by unfold Hid; rw [ksS, hp]
      rw [hp] at hy hB c0 c1
      have hx := u64_bd p.1
      have hy2 := u64_bd p.2
      clear hJ hR2 hp
      gi_wp2
      refine HR2.out.mono ?_
      rintro e W3 ⟨rfl, hJ3, hk3⟩
      have hB3 : Blk W3 w1.heap.size 153 #[.int .u64 (p.1.toNat : Int), .int .u64 (p.2.toNat : Int)] := (hk3 _ _ _ _ hs1 hB).trans hB
      have d0 := hB3.cell 0
      have d1 := hB3.cell 1
      simp only [List.getElem?_toArray, List.getElem?_cons_zero, List.getElem?_cons_succ] at d0 d1
      have HB3 := Lib.hid hB3
      have HJ3 := Lib.hid hJ3
      clear c0 c1 hy hB hJ3 hk3 hB3
      gi_wp2_with (gi_at_call 96; refine (CR.out p i hlt _).mono ?_; rintro e w4 ⟨rfl, hb4⟩; have hB4 := HB3.out.below' hb4; have f0 := hB4.frozen 0; have f1 := hB4.frozen 1; have g0 := hB4.cell 0; have g1 := hB4.cell 1; simp only [List.getElem?_toArray, List.getElem?_cons_zero, List.getElem?_cons_succ] at g0 g1; have HB4 := Lib.hid hB4; clear hB4)
      go_roundw
      case rel =>
        refine ⟨i + 1, by omega, by go_num, ?_, by rw [HP.out]; simpa using (HB4.out.set_ 0 (.int .u64 ((rnd (UInt64.ofNat i) p).1.toNat : Int))).set_ 1 (.int .u64 ((rnd (UInt64.ofNat i) p).2.toNat : Int))⟩
        rw [HRS.out]
        have j4 := HJJ.out _ _ _ none HJ3.out (below_grown hb4) (fun r e => by cases e)
        have gs : ∀ (X : World) (o : Nat) (v : Value), X.grownBy (X.setCell ⟨w1.heap.size, o, none⟩ v) (some w1.heap.size) := fun X o v => ⟨rfl, rfl, rfl, by simp [World.setCell], fun j hj hne => Below.heap_setCell X ⟨w1.heap.size, o, none⟩ v j (fun e => hne (by rw [e]))⟩
        exact HJJ.out _ _ _ _ (HJJ.out _ _ _ _ j4 (gs _ 0 _) (fun r e => by cases e; exact hsW)) (gs _ 1 _) (fun r e => by cases e; exact hsW)
      case measure => simp [intOf]; omega
    · obtain rfl : i = 32 := by omega
      gi_wp2
      go_end0
      exact ⟨⟨_, rfl⟩, hJ⟩
end Go.Proofs.YtchnaimpmegbkaaGreatDoor

/- Encrypt: the rounds. -/
namespace Go.Proofs.YtchnaimpmegbkaaGreatDoor
open Go.RowKit Go.Shelf
set_option linter.unusedVariables false
attribute [local go_sem] Oper.semAt_some run_storeCells_key

set_option maxHeartbeats 1000000 in
theorem keys_any (k : List UInt8) (w : World) : Calls Tryz.prog 95 #[.agg (cellsB k).toArray] w fun e w' => e = .returned (.func (.func 123) #[] #[.pointer (some ⟨w.heap.size, 0, none⟩)]) ∧ w' = w.alloc (.cells (cellsB k).toArray 23) := by
  go_enter Tryz.func95, Tryz.ntmps95
  go_wp2_with fail
  go_ret
  exact ⟨rfl, rfl⟩

set_option maxRecDepth 100000 in
set_option maxHeartbeats 2000000 in
theorem Encrypt_any (k b : List UInt8) (w : World) (hk : k.length = 16) (hb : b.length = 16) : Calls Tryz.prog 61 #[.agg (cellsB k).toArray, .agg (cellsB b).toArray] w fun e w' => e = .returned (.agg (cellsB (encS k b)).toArray) ∧ Below w.heap.size w w' := by
  have HK := Lib.hid hk
  have HB := Lib.hid hb
  have hkl : (cellsB k).length = 16 := by rw [cellsB_length, hk]
  have hbl : (cellsB b).length = 16 := by rw [cellsB_length, hb]
  have HZ := Lib.hid zero16
  refine (callsIn_wide (n := 6)).1 ?_
  have conv : ∀ (f : FuncId) (args : Array Value) (W : World) (R : Ending → World → Prop) (n : Nat), Calls Tryz.prog f args W R → CallsIn Fence.wide n Tryz.prog f args W R := fun _ _ _ _ _ h => callsIn_wide.2 h
  have hro : Fence.wide.round = none := rfl
  have hfn : ∀ f, Fence.wide.fn f := fun _ => trivial
  generalize Fence.wide = F at *
  clear hk hb
  refine callsIn_of_wp_marks Tryz.func61 rfl (hfn _) ?_ hro
  simp only [Tryz.ntmps61, List.size_toArray, List.length_cons, List.length_nil, Nat.reduceAdd, Nat.reduceSub, Array.replicate_succ, Array.replicate_zero, List.push_toArray, List.append_toArray, List.nil_append, List.cons_append]
  gi_wp2_with (first
    | (gi_at_call 94; rw [fold16B b HB.out, HZ.out]; refine (conv _ _ _ _ _ (wordsOf_any b _ HB.out)).mono ?_; rintro e w1 ⟨rfl, hb1⟩; have hck : ∀ j o, (w1.alloc o).cell? ⟨w.heap.size, j, none⟩ = (cellsB k).toArray[j]? := fun j o => (((blk_a0 w (cellsB k).toArray 23 _ _).below' hb1).alloc o).cell j; have hz : w.heap.size + 1 + 1 < w1.heap.size := by have := hb1.size; simp at this; omega)
    | (gi_at_call 95; rw [fold16B k HK.out]; refine (conv _ _ _ _ _ (keys_any k _)).mono ?_; rintro e w2 ⟨rfl, rfl⟩))
  have hB0 : Blk w1 (w.heap.size + 1 + 1) 23 (cellsB zeroK).toArray := (blk_a2 w _ _ (cellsB zeroK).toArray 23).below' hb1
  have hb01 : Below w.heap.size w w1 := (alloc3_bel w _ _ _).trans (hb1.mono (alloc3_bel w _ _ _).size)
  obtain ⟨WS, hWS⟩ : ∃ W : World, W = (w1.alloc (.cells #[.int .u64 ((wds b).1.toNat : Int), .int .u64 ((wds b).2.toNat : Int)] 153)).alloc (.cells (cellsB k).toArray 23) := ⟨_, rfl⟩
  have sWS : WS.heap.size = w1.heap.size + 1 + 1 := by rw [hWS]; simp
  have bP : Blk WS w1.heap.size 153 #[.int .u64 ((wds b).1.toNat : Int), .int .u64 ((wds b).2.toNat : Int)] := by rw [hWS]; exact blk_b0 _ _ _ _
  have bK : Blk WS (w1.heap.size + 1) 23 (cellsB k).toArray := by rw [hWS]; exact blk_b1 _ _ _ _
  have bR : Blk WS (w.heap.size + 1 + 1) 23 (cellsB zeroK).toArray := by rw [hWS]; exact (hB0.alloc _).alloc _
  have b0S : Below w.heap.size w WS := by rw [hWS]; exact hb01.trans ((alloc2_bel w1 _ _).mono hb01.size)
  rw [← hWS]
  have HRD : Hid (∀ (p : W2) (u : UInt64) W', CallsIn F 3 Tryz.prog 96 #[.agg #[.int .u64 (p.1.toNat : Int), .int .u64 (p.2.toNat : Int)], .int .u64 (u.toNat : Int)] W' fun e w' => e = .returned (.agg #[.int .u64 ((rnd u p).1.toNat : Int), .int .u64 ((rnd u p).2.toNat : Int)]) ∧ Below W'.heap.size W' w') := fun p u W' => conv _ _ _ _ _ (round_any p u W')
  have HBL : Hid (∀ (p : W2) W', CallsIn F 5 Tryz.prog 97 #[.agg #[.int .u64 (p.1.toNat : Int), .int .u64 (p.2.toNat : Int)]] W' fun e w' => e = .returned (.agg (cellsB (blk p)).toArray) ∧ Below W'.heap.size W' w') := fun p W' => conv _ _ _ _ _ (block_any p W')
  clear hck hkl hbl hWS hB0
  refine wpIn_range_box (xs := List.range 32) hro (by omega) (gf := 123) (lb := #[.pointer (some ⟨w1.heap.size + 1, 0, none⟩)]) rfl (hfn _) (enters_of Tryz.func123 (by kernel_rfl) rfl)
    (keys1_in F 5 (w1.heap.size + 1) hfn hro (by omega) conv (w1.heap.size + 1) k HK.out WS bK (by omega)) KpM.trans (fun W l o o' _ h ho => KpM.put W l o o' h ho) (Below.refl _ _) (fun _ => rfl)
    (fun pre W => Blk W w1.heap.size 153 #[.int .u64 ((enW (wds k) (wds b) pre.length).1.toNat : Int), .int .u64 ((enW (wds k) (wds b) pre.length).2.toNat : Int)] ∧ Blk W (w.heap.size + 1 + 1) 23 (cellsB zeroK).toArray ∧ Below w.heap.size w W)
    ?hI ⟨bP, bR, b0S⟩ (fun x => { tmps := #[.agg (cellsB k).toArray, .agg (cellsB b).toArray, .pointer (some ⟨w.heap.size, 0, none⟩), .pointer (some ⟨w.heap.size + 1, 0, none⟩), .pointer (some ⟨w.heap.size + 1 + 1, 0, none⟩), .pointer (some ⟨w1.heap.size, 0, none⟩), undef, .int .u64 ((ksS (wds k) x).2.toNat : Int), .agg (cellsB b).toArray,
      .agg #[.int .u64 ((wds b).1.toNat : Int), .int .u64 ((wds b).2.toNat : Int)], .agg (cellsB k).toArray, .func (.func 123) #[] #[.pointer (some ⟨w1.heap.size + 1, 0, none⟩)], .int .i64 (x : Int), .int .u64 ((ksS (wds k) x).2.toNat : Int), undef, undef, undef, undef, undef], defers := [] }) ?assign ?body ?done
  case hI =>
    rintro pre X Y row ⟨i1, i2, i3⟩ hg hr
    exact ⟨(hg.block _ i1.lt (fun e => by have := hr _ e.symm; omega)).trans i1, (hg.block _ i2.lt (fun e => by have := hr _ e.symm; omega)).trans i2, i3.grown hg i3.size (fun g e => by have := hr g e; have := b0S.size; omega)⟩
  case assign =>
    intro l x W K hK
    unfold keyE
    gi_wp2
    exact hK
  case body =>
    rintro l pre x W ⟨i1, i2, i3⟩ ⟨rest, hrest⟩
    have hx : x = pre.length := by
      have := congrArg (fun l => l[pre.length]?) hrest
      simp only [List.getElem?_append_right (Nat.le_refl _), Nat.sub_self, List.getElem?_cons_zero] at this
      rcases Nat.lt_or_ge pre.length 32 with h | h
      · rw [List.getElem?_range h] at this
        injection this with this
        exact this.symm
      · rw [List.getElem?_eq_none (by simpa using h)] at this; cases this
    obtain ⟨p, hp⟩ : ∃ p, enW (wds k) (wds b) pre.length = p := ⟨_, rfl⟩
    have HN : Hid (enW (wds k) (wds b) (pre ++ [x]).length = rnd (ksS (wds k) x).2 p) := by
      unfold Hid
      rw [List.length_append, show [x].length = 1 from rfl, enW, hp, hx]
    rw [hp] at i1
    have c0 := i1.cell 0
    have c1 := i1.cell 1
    simp only [List.getElem?_toArray, List.getElem?_cons_zero, List.getElem?_cons_succ] at c0 c1
    obtain ⟨u, hu⟩ : ∃ u, (ksS (wds k) x).2 = u := ⟨_, rfl⟩
    rw [hu] at HN ⊢
    have I1 := Lib.hid i1
    have I2 := Lib.hid i2
    have LT1 := Lib.hid i2.lt
    clear hp hx hu hrest i1 i2
    gi_wp2_with (gi_at_call 96; refine (CallsIn.inRound l (HRD.out p u _)).mono ?_; rintro e w4 ⟨rfl, hb4⟩; have hB4 := I1.out.below' hb4; have f0 := hB4.frozen 0; have f1 := hB4.frozen 1; have g0 := hB4.cell 0; have g1 := hB4.cell 1; simp only [List.getElem?_toArray, List.getElem?_cons_zero, List.getElem?_cons_succ] at g0 g1; have HB4 := Lib.hid hB4; clear hB4)
    have kf0 : KeepsFrom WS.heap.size W w4 := ⟨hb4.size, fun k o _ hk ho => (hb4.block k (Array.getElem?_eq_some_iff.1 hk).1).trans hk⟩
    have kf := (kf0.trans ((KeepsOthers.setCell w4 ⟨w1.heap.size, 0, none⟩ (.int .u64 ((rnd u p).1.toNat : Int))).from WS.heap.size)).trans ((KeepsOthers.setCell (w4.setCell ⟨w1.heap.size, 0, none⟩ (.int .u64 ((rnd u p).1.toNat : Int))) ⟨w1.heap.size, 1, none⟩ (.int .u64 ((rnd u p).2.toNat : Int))).from WS.heap.size)
    refine ⟨kf, ?_, ?_, ?_, ?_⟩
    · intro j cs t fr hj hc
      exact ((Below.heap_setCell _ ⟨w1.heap.size, 1, none⟩ _ j (by simp; omega)).trans (Below.heap_setCell _ ⟨w1.heap.size, 0, none⟩ _ j (by simp; omega))).trans (hb4.block j (Array.getElem?_eq_some_iff.1 hc).1)
    · rw [HN.out]
      simpa using (HB4.out.set_ 0 (.int .u64 ((rnd u p).1.toNat : Int))).set_ 1 (.int .u64 ((rnd u p).2.toNat : Int))
    · exact ((I2.out.below' hb4).far (p := ⟨w1.heap.size, 0, none⟩) (by simp; omega) _).far (p := ⟨w1.heap.size, 1, none⟩) (by simp; omega) _
    · exact ((i3.trans (hb4.mono i3.size)).setCell (p := ⟨w1.heap.size, 0, none⟩) (by simp; omega) _).setCell (p := ⟨w1.heap.size, 1, none⟩) (by simp; omega) _
  case done =>
    rintro D W hD ⟨i1, i2, i3⟩ hK
    rw [List.length_range] at i1
    have HE : Hid (encS k b = blk (enW (wds k) (wds b) 32)) := rfl
    obtain ⟨p, hp⟩ : ∃ p, enW (wds k) (wds b) 32 = p := ⟨_, rfl⟩
    rw [hp] at i1 HE
    have c0 := i1.cell 0
    have c1 := i1.cell 1
    simp only [List.getElem?_toArray, List.getElem?_cons_zero, List.getElem?_cons_succ] at c0 c1
    have hl : (cellsB (blk p)).length = 16 := rfl
    have hall : (cellsB (blk p)).all (·.oneCell') = true := List.all_eq_true.2 (cellsB_one _)
    have I2 := Lib.hid i2
    clear hp i1 i2
    gi_wp2_with (gi_at_call 97; refine (HBL.out p _).mono ?_; rintro e w5 ⟨rfl, hb5⟩; have hB5 := I2.out.below' hb5; have hr5 : (rowAt w5 (w.heap.size + 1 + 1)).size = 16 := by { rw [hB5.row]; rfl }; have hf5 := hB5.free; have HB5 := Lib.hid hB5; clear hB5)
    have hD2 : D < W.heap.size := (Array.getElem?_eq_some_iff.1 hK).1
    have hB6 := HB5.out.setRow (cellsB (blk p)).toArray
    have hDne : D ≠ w.heap.size + 1 + 1 := by omega
    have hK' : (w5.setRow (w.heap.size + 1 + 1) (cellsB (blk p)).toArray).heap[D]? = some (.deferred (some [])) := (setRow_other _ _ _ _ hDne).trans ((hb5.block D hD2).trans hK)
    have hB7 : Blk ((w5.setRow (w.heap.size + 1 + 1) (cellsB (blk p)).toArray).putObj D (.deferred none)) (w.heap.size + 1 + 1) 23 (cellsB (blk p)).toArray := (World.putObj_heap_other (by omega)).trans hB6
    have hbel : Below w.heap.size w (w5.setRow (w.heap.size + 1 + 1) (cellsB (blk p)).toArray) := below_setRow (i3.trans (hb5.mono i3.size)) (by omega) _
    refine ⟨by simp, .inl ⟨_, _, rfl, run_takeDeferred hK', ?_⟩⟩
    exact ⟨.agg (cellsB (blk p)).toArray, results_cell_row rfl _ _ (w.heap.size + 1 + 1) _ _ (0, 0) _ rfl hB7 under_key rfl (cellsB_size _ rfl), by rw [HE.out], hbel.trans (belowK_b (w := w) (Nat.le_refl _) _ D _ _ (by have := b0S.size; omega) hK' rfl rfl)⟩
end Go.Proofs.YtchnaimpmegbkaaGreatDoor

/- What is derived; a number below most: the program. -/
namespace Go.Proofs.YtchnaimpmegbkaaGreatDoor
open Go.RowKit Go.Shelf
set_option linter.unusedVariables false
attribute [local go_sem] run_storeCells_key

theorem tag_word (t : UInt8) (c : UInt64) : bits .or .u64 ((t.toNat : Int) * 72057594037927936) (c.toNat : Int) = ((t.toUInt64 <<< 56 ||| c).toNat : Int) := by
  rw [show (t.toNat : Int) * 72057594037927936 = IntKind.u64.wrap ((t.toNat : Int) * 72057594037927936) from by rw [IntKind.wrap_u64]; have := t.toNat_lt; omega]
  rw [show (t.toNat : Int) = (t.toUInt64.toNat : Int) from by rw [UInt8.toNat_toUInt64], u64_shl56, u64_or]
theorem all16 (l : List UInt8) : (cellsB l).all (·.oneCell') = true := List.all_eq_true.2 (cellsB_one _)

set_option maxHeartbeats 1000000 in
theorem blockOf_any (t : UInt8) (c n : UInt64) (w : World) : Calls Tryz.prog 62 #[.int .u8 (t.toNat : Int), .int .u64 (c.toNat : Int), .int .u64 (n.toNat : Int)] w fun e w' => e = .returned (.agg (cellsB (tagS t c n)).toArray) ∧ Below w.heap.size w w' := by
  have HZ := Lib.hid zero16
  have ht : (t.toNat : Int) ≤ 255 := by have := t.toNat_lt; omega
  have hc := u64_bd c
  have HT := Lib.hid (tag_word t c)
  have HE : Hid (tagS t c n = blk (t.toUInt64 <<< 56 ||| c, n)) := rfl
  obtain ⟨p, hp⟩ : ∃ p : W2, (t.toUInt64 <<< 56 ||| c, n) = p := ⟨_, rfl⟩
  have hl : (cellsB (blk p)).length = 16 := rfl
  have hall := all16 (blk p)
  rw [hp] at HE
  have HP : Hid ((t.toUInt64 <<< 56 ||| c) = p.1) := congrArg Prod.fst hp
  have HP2 : Hid (n = p.2) := congrArg Prod.snd hp
  clear hp
  go_enter Tryz.func62, Tryz.ntmps62
  go_wp2_with (go_at_call 97; rw [HT.out, HP.out, HP2.out, HZ.out]; refine (block_any p _).mono ?_; rintro e w1 ⟨rfl, hb1⟩; have hB1 := (Blk.new w 23 (cellsB zeroK).toArray).below' hb1; have hr1 : (rowAt w1 w.heap.size).size = 16 := by { rw [hB1.row]; rfl }; have hf1 := hB1.free; have HB1 := Lib.hid hB1; clear hB1)
  exact bodyPost_ret (results_cell_row rfl _ _ w.heap.size _ _ (0, 0) _ rfl (HB1.out.setRow (cellsB (blk p)).toArray) under_key rfl (cellsB_size _ rfl)) rfl ⟨by rw [HE.out], below_setRow ((alloc_bel _ _).trans (hb1.mono (alloc_bel _ _).size)) (Nat.le_refl _) _⟩

theorem blockOf_zero (t : UInt8) (n : UInt64) (w : World) : Calls Tryz.prog 62 #[.int .u8 (t.toNat : Int), .int .u64 0, .int .u64 (n.toNat : Int)] w fun e w' => e = .returned (.agg (cellsB (tagS t 0 n)).toArray) ∧ Below w.heap.size w w' := blockOf_any t 0 n w
set_option maxHeartbeats 1000000 in
theorem Derive_any (k : List UInt8) (t : UInt8) (n : UInt64) (w : World) (hk : k.length = 16) : Calls Tryz.prog 26 #[.agg (cellsB k).toArray, .int .u8 (t.toNat : Int), .int .u64 (n.toNat : Int)] w fun e w' => e = .returned (.agg (cellsB (derS k t n)).toArray) ∧ Below w.heap.size w w' := by
  have HK := Lib.hid hk
  have HZ := Lib.hid zero16
  have hkl : (cellsB k).length = 16 := by rw [cellsB_length, hk]
  have HE : Hid (derS k t n = encS k (tagS t 0 n)) := rfl
  have hl : (cellsB (encS k (tagS t 0 n))).length = 16 := rfl
  have hall := all16 (encS k (tagS t 0 n))
  clear hk
  go_enter Tryz.func26, Tryz.ntmps26
  go_wp2_with fail
  rw [HZ.out]
  go_region_with (first
    | (go_at_call 62; refine (blockOf_zero t n _).mono ?_; rintro e w1 ⟨rfl, hb1⟩; have hck : ∀ j, w1.cell? ⟨w.heap.size, j, none⟩ = (cellsB k).toArray[j]? := fun j => ((blk_b0 w (cellsB k).toArray 23 _).drew.below' hb1).cell j)
    | (go_at_call 61; rw [fold16B k HK.out]; refine (Encrypt_any k (tagS t 0 n) _ HK.out rfl).mono ?_; rintro e w2 ⟨rfl, hb2⟩; have hB2 := ((blk_b1 w (.cells (cellsB k).toArray 23) (cellsB zeroK).toArray 23).drew.below' hb1).below' hb2; have hr2 : (rowAt w2 (w.heap.size + 1)).size = 16 := by { rw [hB2.row]; rfl }; have hf2 := hB2.free; have HB2 := Lib.hid hB2; clear hB2))
  all_goals
    go_wp2_with fail
    exact bodyPost_ret (results_cell_row rfl _ _ (w.heap.size + 1) _ _ (0, 0) _ rfl (HB2.out.setRow (cellsB (encS k (tagS t 0 n))).toArray) under_key rfl (cellsB_size _ rfl)) rfl ⟨by rw [HE.out], below_setRow (((alloc2_bel w _ _).drew.trans (hb1.mono (alloc2_bel w _ _).size)).trans (hb2.mono (Nat.le_trans (alloc2_bel w _ _).size hb1.size))) (by omega) _⟩

theorem numS_pos {k : List UInt8} {n most : UInt64} (h : most ≠ 0) : numS k n most = (wds (derS k 3 n)).1 % most := by rw [numS, if_neg h]
theorem numS_zero {k : List UInt8} {n : UInt64} : numS k n 0 = 0 := by rw [numS, if_pos rfl]
set_option maxHeartbeats 1000000 in
set_option maxRecDepth 100000 in
theorem Number_any (k : List UInt8) (n most : UInt64) (w : World) (hk : k.length = 16) : Calls Tryz.prog 75 #[.agg (cellsB k).toArray, .int .u64 (n.toNat : Int), .int .u64 (most.toNat : Int)] w fun e w' => e = .returned (.int .u64 ((numS k n most).toNat : Int)) ∧ Below w.heap.size w w' := by
  have HK := Lib.hid hk
  have hkl : (cellsB k).length = 16 := by rw [cellsB_length, hk]
  by_cases h0 : most = 0
  · subst h0
    have HS : Hid (numS k n 0 = 0) := numS_zero
    have e0 : ((0 : UInt64).toNat : Int) = 0 := rfl
    rw [e0]
    clear hk
    go_enter Tryz.func75, Tryz.ntmps75
    go_wp2_with fail
    go_ret
    exact ⟨by rw [HS.out]; rfl, alloc_bel _ _⟩
  · have HS : Hid (numS k n most = (wds (derS k 3 n)).1 % most) := numS_pos h0
    have hmn : most.toNat ≠ 0 := fun e => h0 (UInt64.toNat_inj.1 (e.trans rfl))
    have hm0 : (most.toNat : Int) ≠ 0 := by omega
    have hm1 : ((most.toNat : Int) == 0) = false := by rw [beq_eq_false_iff_ne]; exact hm0
    have hm2 : (most.toNat == 0) = false := by rw [beq_eq_false_iff_ne]; omega
    have hm3 : ¬ most.toNat = 0 := by omega
    have bm := u64_bd most
    have bx := u64_bd (wds (derS k 3 n)).1
    have HM2 : Hid (((wds (derS k 3 n)).1.toNat : Int) % (most.toNat : Int) = ((((wds (derS k 3 n)).1 % most).toNat : Nat) : Int)) := by
      unfold Hid; rw [UInt64.toNat_mod]; exact (Int.natCast_emod _ _).symm
    have HD : Hid (∀ W, Calls Tryz.prog 26 #[.agg (cellsB k).toArray, .int .u8 3, .int .u64 (n.toNat : Int)] W fun e w' => e = .returned (.agg (cellsB (derS k 3 n)).toArray) ∧ Below W.heap.size W w') := fun W => Derive_any k 3 n W hk
    obtain ⟨d, hd⟩ : ∃ d, derS k 3 n = d := ⟨_, rfl⟩
    have hdl : Hid (d.length = 16) := by rw [← hd]; rfl
    rw [hd] at HS HM2 HD bx
    have hfl : ∀ (x y : Int) W, (Instr.field 153 (.agg #[.int .u64 x, .int .u64 y]) 0).run Tryz.prog W = .ok (.int .u64 x) W := fun _ _ _ => by kernel_rfl
    clear hk h0 hd hmn hm0
    go_enter Tryz.func75, Tryz.ntmps75
    go_wp2_with (first
      | (go_at_call 26; rw [fold16B k HK.out]; refine (HD.out _).mono ?_; rintro e w1 ⟨rfl, hb1⟩)
      | (go_at_call 94; refine (wordsOf_any d _ hdl.out).mono ?_; rintro e w2 ⟨rfl, hb2⟩))
    go_ret
    exact ⟨ret_u64 (by rw [HS.out]; exact HM2.out), (alloc_bel _ _).trans ((hb1.trans (hb2.mono hb1.size)).mono (alloc_bel _ _).size)⟩
end Go.Proofs.YtchnaimpmegbkaaGreatDoor

/- Bytes and rows of bytes of the call's own: append; a row as a string. -/
namespace Go.Proofs.YtchnaimpmegbkaaGreatDoor
open Go.RowKit
set_option linter.unusedVariables false

theorem u8_info' : (Tryz.prog.info? 5).map (fun i => (i.zero, i.size, i.bytes)) = some (some (.int .u8 0), 1, 1) := by kernel_rfl
theorem OB.below {B : Nat} {w w' : World} {A : Option Addr} {c : Nat} {l : List UInt8} (h : OB B w A c l) (hb : Below w.heap.size w w') : OB B w' A c l := ownsRow_below h hb
theorem OB.br {B : Nat} {w : World} {A : Option Addr} {c : Nat} {l : List UInt8} (h : OB B w A c l) (hl : l.length ≤ 140737488351232) : BR w A c l := Rd.of_own h hl
theorem OB.le_ {B B' : Nat} {w : World} {A : Option Addr} {c : Nat} {l : List UInt8} (h : OB B w A c l) (hB : B' ≤ B) : OB B' w A c l :=
  ⟨h.1, h.2.elim Or.inl (fun ⟨g, cap, cur, hv, hg, r⟩ => Or.inr ⟨g, cap, cur, hv, Nat.le_trans hB hg, r⟩)⟩
theorem OB.nil' (B : Nat) (w : World) : OB B w none 0 [] := World.ownsRow_nil w B _ 1
/-- An empty literal. -/
theorem OB.lit0 (B : Nat) (w : World) (hB : B ≤ w.heap.size) : OB B (w.alloc (.cells #[] 5)) (some ⟨w.heap.size, 0, none⟩) 0 [] := World.ownsRow_lit w #[] 0 hB (by simp [maxLen]) (by simp)
/-- A literal. -/
theorem OB.lit (B : Nat) (w : World) (l : List UInt8) (hB : B ≤ w.heap.size) (hl : l.length ≤ 1000000) {n : Nat} (hn : l.length = n) : OB B (w.alloc (.cells (cellsB l).toArray 5)) (some ⟨w.heap.size, 0, none⟩) n l := by
  subst hn
  exact World.ownsRow_lit (e := 5) (size := 1) w (cellsB l).toArray l.length hB (by simp only [maxLen]; omega) (by simp [cellsB])
theorem BR.src {w : World} {A : Option Addr} {c : Nat} {l : List UInt8} (h : BR w A c l) {n : Nat} (hn : l.length = n) : Src w 1 A n (cellsB l) := by subst hn; exact Rd.src h
theorem wpList_append_bytes (w : World) {ops : Array Oper} {rest : List Oper} {o : Oper} {a : Act} {Q : Exit → Act → World → Prop} (hgd : o.guard = none) (s x : Operand)
    (ho : o.op = .call { callee := .builtin .append, args := #[s, x], argTypes := #[31, 31] })
    (B : Nat) (A : Option Addr) (n c : Nat) (l : List UInt8) (hn : l.length = n) (hs : a.eval s = .slice A n c) (hown : OB B w A c l)
    (X : Option Addr) (m d : Nat) (news : List UInt8) (hm : news.length = m) (hx : a.eval x = .slice X m d) (hsrc : Src w 1 X m (cellsB news))
    (hlen : n + m ≤ 140737488351232) (hB : B ≤ w.heap.size)
    (h : ∀ A' c' w', OB B w' A' c' (l ++ news) → Below B w w' → w.grownBy w' (Value.ownBlock (.slice A n c)) → wpList Tryz.prog ops Q rest (a.put o.dst (.slice A' (n + m) c')) w') : wpList Tryz.prog ops Q (o :: rest) a w := by
  obtain ⟨i0, hi, hz0, hz1, hz2⟩ := info_parts u8_info'
  subst hn hm
  refine wpList_append_src w hgd s x 31 ho B 5 i0 (.int .u8 0) 1 1 Tryz.underlying31 hi hz0 hz1 hz2 rfl (by omega) A l.length c (cellsB l) hs hown X news.length d (cellsB news) hx hsrc (cellsB_one _)
    (by simp only [maxLen]; omega) (by omega) hB ?_
  intro A' c' w' h1 h2 h3
  refine h A' c' w' ?_ (grown_below (Below.refl _ _) hown h2 hB (Nat.le_refl _)) h2
  unfold OB
  rw [cellsB_append, List.length_append]
  exact h1

/-- The rows that the call owns. -/
def RO (B : Nat) (w : World) (A : Option Addr) (c : Nat) (rs : List BRow) : Prop := w.ownsRow B 31 1 (.slice A rs.length c) rs.length (rs.map BRow.v)
theorem rows_info : (Tryz.prog.info? 31).map (fun i => (i.zero, i.size, i.bytes)) = some (some (.slice none 0 0), 1, 24) := by kernel_rfl
theorem RO.below {B : Nat} {w w' : World} {A : Option Addr} {c : Nat} {rs : List BRow} (h : RO B w A c rs) (hb : Below w.heap.size w w') : RO B w' A c rs := ownsRow_below h hb
theorem RO.nil (B : Nat) (w : World) : RO B w none 0 [] := World.ownsRow_nil w B _ 1
theorem RO.rr {B : Nat} {w : World} {A : Option Addr} {c : Nat} {rs : List BRow} (h : RO B w A c rs) (hl : rs.length ≤ 140737488351232) (hb : ∀ r ∈ rs, BR w r.A r.c r.l) : RR w A c rs := ⟨Rd.of_own h hl, hb⟩
end Go.Proofs.YtchnaimpmegbkaaGreatDoor

/- The reference's bytes, words and blocks. -/
namespace Go.Proofs.YtchnaimpmegbkaaGreatDoor
open Go.RowKit
set_option linter.unusedVariables false

/-- A part of a key in a block, as bytes. -/
theorem Blk.br {w : World} {g : Nat} {t : TypeId} {b : List UInt8} (h : Blk w g t (cellsB b).toArray) (o n c : Nat) (hn : o + n ≤ b.length) (hc : n ≤ c) (hc2 : c ≤ 100) : BR w (some ⟨g, o, none⟩) c ((b.drop o).take n) := by
  have hl : ((b.drop o).take n).length = n := by rw [List.length_take, List.length_drop]; omega
  refine ⟨⟨by simp [cellsB], by omega, by omega, by omega⟩, fun _ => ⟨g, o, rfl, h.lt, fun j v hv => ?_⟩⟩
  rw [h.cell]
  have hj : j < n := by
    rcases Nat.lt_or_ge j n with h' | h'
    · exact h'
    · rw [List.getElem?_eq_none (by rw [cellsB_length, hl]; exact h')] at hv; cases hv
  rw [← hv]
  simp [cellsB, List.getElem?_take, hj, List.getElem?_drop]
/-- The first 16 bytes, zeros where there are none. -/
def padK (l : List UInt8) : List UInt8 := (List.range 16).map fun i => l.getD i 0
theorem padK_length (l : List UInt8) : (padK l).length = 16 := by simp [padK]
theorem padK_16 {l : List UInt8} (h : l.length = 16) : padK l = l := by
  match l, h with
  | [_, _, _, _, _, _, _, _, _, _, _, _, _, _, _, _], _ => rfl
end Go.Proofs.YtchnaimpmegbkaaGreatDoor

/- The reference's blocks of words, and of a tag. -/
namespace Go.Proofs.YtchnaimpmegbkaaGreatDoor
open Go.RowKit
set_option linter.unusedVariables false
attribute [local go_sem] run_storeCells_key

end Go.Proofs.YtchnaimpmegbkaaGreatDoor

/- The reference's round keys, and Encrypt, Derive, Number. -/
namespace Go.Proofs.YtchnaimpmegbkaaGreatDoor
open Go.RowKit
set_option linter.unusedVariables false
attribute [local go_sem] run_storeCells_key

end Go.Proofs.YtchnaimpmegbkaaGreatDoor

/- The reference's Encrypt, Derive, Number. -/
namespace Go.Proofs.YtchnaimpmegbkaaGreatDoor
open Go.RowKit
set_option linter.unusedVariables false
attribute [local go_sem] run_storeCells_key

end Go.Proofs.YtchnaimpmegbkaaGreatDoor

/- The reference's Derive, Number. -/
namespace Go.Proofs.YtchnaimpmegbkaaGreatDoor
open Go.RowKit
set_option linter.unusedVariables false
attribute [local go_sem] run_storeCells_key

end Go.Proofs.YtchnaimpmegbkaaGreatDoor
