/-
  The block cipher of the program: words, blocks, rounds.
-/
import Derived.Test.YtinpiodfpnbllaaSpeckRot
import Derived.Test.YtinpiodfpnbllaaKeyMem
import Derived.StillTailTactics
namespace Go.Proofs.Ytinpiodfpnbllaa
open Go.RowKit
set_option linter.unusedVariables false

theorem wd_take_succ {l : List UInt8} {k : Nat} (h : k < l.length) : wd (l.take (k + 1)) = (wd (l.take k) <<< 8 ||| (l.getD k 0).toUInt64) := by
  rw [List.take_succ_eq_append_getElem h, wd_snoc, shl8_or]
  simp [List.getD, List.getElem?_eq_getElem h]
/-- Two words as a value. -/
def pairC (p : W2) : Array Value := #[.int .u64 (p.1.toNat : Int), .int .u64 (p.2.toNat : Int)]

theorem shl8_or_u8 (x : UInt64) (c : UInt8) : bits .or .u64 (IntKind.u64.wrap ((x.toNat : Int) * 256)) (c.toNat : Int) = ((x <<< 8 ||| c.toUInt64).toNat : Int) := by
  rw [u64_shl8, show (c.toNat : Int) = (c.toUInt64.toNat : Int) from by rw [UInt8.toNat_toUInt64], u64_or]
theorem pair_cong {a b c d : Int} (h1 : a = b) (h2 : c = d) : (#[.int .u64 a, .int .u64 c] : Array Value) = #[.int .u64 b, .int .u64 d] := by rw [h1, h2]
set_option maxHeartbeats 1000000 in
theorem wordsOf_any (b : List UInt8) (w : World) (hb : b.length = 16) : Calls Try.prog 106 #[.agg (cellsB b).toArray] w fun e w' => e = .returned (.agg #[.int .u64 ((wds b).1.toNat : Int), .int .u64 ((wds b).2.toNat : Int)]) ∧ Below w.heap.size w w' := by
  have HB := Lib.hid hb
  clear hb
  go_enter Try.func106, Try.ntmps106
  go_wp2_with fail
  go_loopw [5] (fun vk wr => ∃ (k : Nat) (x y : UInt64), k ≤ 8 ∧ vk = .int .i64 k ∧ Hid (x = wd (b.take k) ∧ y = wd ((b.drop 8).take k)) ∧ Blk wr w.heap.size 23 (cellsB b).toArray ∧
      Blk wr (w.heap.size + 1) 161 #[.int .u64 0, .int .u64 0] ∧ Blk wr (w.heap.size + 1 + 1) 161 #[.int .u64 (x.toNat : Int), .int .u64 (y.toNat : Int)] ∧ Below w.heap.size w wr) (fun vk _ => 8 - (intOf vk).toNat)
  case atStart => exact ⟨0, 0, 0, by omega, rfl, ⟨rfl, rfl⟩, blk_a0 _ _ _ _ _, blk_a1 _ _ _ _ _, blk_a2 _ _ _ _ _, alloc3_bel _ _ _ _⟩
  case round =>
    obtain ⟨k, x, y, hk, rfl, HX, hB1, hB2, hB3, hbel⟩ := hrel
    by_cases hk8 : k < 8
    · have c0 := hB3.cell 0
      have c1 := hB3.cell 1
      have f0 := hB3.frozen 0
      have f1 := hB3.frozen 1
      simp only [List.getElem?_toArray, List.getElem?_cons_zero, List.getElem?_cons_succ] at c0 c1
      have d0 := (hB1.cell k).trans (bytes_get b k (by have := HB.out; omega))
      have d1 := (hB1.cell (8 + k)).trans (bytes_get b (8 + k) (by have := HB.out; omega))
      generalize hv0 : b.getD k 0 = v0 at *
      generalize hv1 : b.getD (8 + k) 0 = v1 at *
      have HV := Lib.hid (And.intro hv0 hv1)
      clear hv0 hv1
      have hbx := u64_bd x
      have hby := u64_bd y
      have hki : (k : Int) < 8 := by omega
      have hv0' : (v0.toNat : Int) ≤ 255 := by have := v0.toNat_lt; omega
      have hv1' : (v1.toNat : Int) ≤ 255 := by have := v1.toNat_lt; omega
      go_wp2_with fail
      go_region
      have e1 := shl8_or_u8 x v0
      have e2 := shl8_or_u8 y v1
      rw [e1, e2]
      have hB4 := Lib.hid ((hB3.set_ 0 (.int .u64 ((x <<< 8 ||| v0.toUInt64).toNat : Int))).set_ 1 (.int .u64 ((y <<< 8 ||| v1.toUInt64).toNat : Int)))
      clear e1 e2 c0 c1 f0 f1 d0 d1
      go_wp2_with fail
      go_roundw
      case rel =>
        refine ⟨k + 1, x <<< 8 ||| v0.toUInt64, y <<< 8 ||| v1.toUInt64, by omega, by go_num, ?_, (((hB1.far (p := ⟨w.heap.size + 1 + 1, 0, none⟩) (by simp; omega) _).far (p := ⟨w.heap.size + 1 + 1, 1, none⟩) (by simp; omega) _)).drew,
          ((hB2.far (p := ⟨w.heap.size + 1 + 1, 0, none⟩) (by simp) _).far (p := ⟨w.heap.size + 1 + 1, 1, none⟩) (by simp) _).drew, Blk.drew (by simpa using hB4.out), ((hbel.setCell (p := ⟨w.heap.size + 1 + 1, 0, none⟩) (by simp; omega) _).setCell (p := ⟨w.heap.size + 1 + 1, 1, none⟩) (by simp; omega) _).drew⟩
        obtain ⟨h1, h2⟩ := HX.out
        obtain ⟨g1, g2⟩ := HV.out
        refine ⟨?_, ?_⟩
        · rw [wd_take_succ (by have := HB.out; omega), h1, g1]
        · rw [wd_take_succ (by have := HB.out; simp; omega), h2, ← g2]
          congr 2
          simp [List.getD, List.getElem?_drop]
      case measure => simp [intOf]; omega
    · obtain rfl : k = 8 := by omega
      have c0 := hB3.cell 0
      have c1 := hB3.cell 1
      have r0 := hB2.cell 0
      have r1 := hB2.cell 1
      have f0 := hB2.frozen 0
      have f1 := hB2.frozen 1
      simp only [List.getElem?_toArray, List.getElem?_cons_zero, List.getElem?_cons_succ] at c0 c1 r0 r1
      have HE : Hid (x = (wds b).1 ∧ y = (wds b).2) := by
        obtain ⟨h1, h2⟩ := HX.out
        refine ⟨h1, ?_⟩
        rw [h2, List.take_of_length_le (by have := HB.out; simp; omega)]
        rfl
      go_wp2_with fail
      have hB5 : Blk ((wr.setCell ⟨w.heap.size + 1, 0, none⟩ (.int .u64 (x.toNat : Int))).setCell ⟨w.heap.size + 1, 1, none⟩ (.int .u64 (y.toNat : Int))) (w.heap.size + 1) 161 #[.int .u64 (x.toNat : Int), .int .u64 (y.toNat : Int)] := by
        simpa using (hB2.set_ 0 (.int .u64 (x.toNat : Int))).set_ 1 (.int .u64 (y.toNat : Int))
      refine bodyPost_ret (results_cell_row rfl _ _ (w.heap.size + 1) _ _ (0, 0) _ rfl hB5 Try.underlying161 rfl (by kernel_rfl)) rfl ⟨?_, ?_⟩
      · rw [HE.out.1, HE.out.2]
      · exact (hbel.setCell (p := ⟨w.heap.size + 1, 0, none⟩) (by simp) _).setCell (p := ⟨w.heap.size + 1, 1, none⟩) (by simp) _

set_option maxHeartbeats 1000000 in
theorem round_any (p : W2) (k : UInt64) (w : World) : Calls Try.prog 108 #[.agg #[.int .u64 (p.1.toNat : Int), .int .u64 (p.2.toNat : Int)], .int .u64 (k.toNat : Int)] w fun e w' => e = .returned (.agg #[.int .u64 ((rnd k p).1.toNat : Int), .int .u64 ((rnd k p).2.toNat : Int)]) ∧ Below w.heap.size w w' := by
  obtain ⟨x, y⟩ := p
  dsimp only
  have hx := u64_bd x
  have hy := u64_bd y
  have hk := u64_bd k
  have HE : Hid (((rotr8 x + y) ^^^ k) = (rnd k (x, y)).1 ∧ (rotl3 y ^^^ ((rotr8 x + y) ^^^ k)) = (rnd k (x, y)).2) := ⟨rfl, rfl⟩
  go_enter Try.func108, Try.ntmps108
  go_wp2_with fail
  go_quiet ((go_at_call 144; exact quiet_left' (RotateLeft64_r8 x _)))
  go_wp2_with (go_at_call 144; refine (RotateLeft64_l3 y _).mono ?_; rintro e w1 ⟨rfl, rfl⟩)
  simp only [u64_add, u64_xor]
  rw [HE.out.2, HE.out.1]
  exact bodyPost_ret (v := .agg #[.int .u64 ((rnd k (x, y)).1.toNat : Int), .int .u64 ((rnd k (x, y)).2.toNat : Int)]) (by simp [results, Try.results108, go_sem]) rfl
    ⟨rfl, ((below_drewN ((alloc_bel _ _).alloc (by simp) _) _).setCell (p := ⟨w.heap.size + 1, 0, none⟩) (by simp) _).setCell (p := ⟨w.heap.size + 1, 1, none⟩) (by simp) _⟩

/-- The block after k rounds. -/
def stB (p : W2) (k : Nat) : List UInt8 := (List.range 16).map fun j => if j < 8 then (if j < k then (by8 p.1).getD j 0 else 0) else (if j - 8 < k then (by8 p.2).getD (j - 8) 0 else 0)
theorem stB_step (p : W2) (k : Nat) (hk : k < 8) : ((stB p k).set k ((by8 p.1).getD k 0)).set (8 + k) ((by8 p.2).getD k 0) = stB p (k + 1) := by
  match k, hk with
  | 0, _ => rfl
  | 1, _ => rfl
  | 2, _ => rfl
  | 3, _ => rfl
  | 4, _ => rfl
  | 5, _ => rfl
  | 6, _ => rfl
  | 7, _ => rfl
theorem stB_fin (p : W2) : stB p 8 = blk p := rfl
theorem stB_length (p : W2) (k : Nat) : (stB p k).length = 16 := by simp [stB]
theorem by8_getD (x : UInt64) (k : Nat) (hk : k < 8) : (by8 x).getD k 0 = (x >>> UInt64.ofNat (56 - 8 * k)).toUInt8 := by
  match k, hk with
  | 0, _ => rfl
  | 1, _ => rfl
  | 2, _ => rfl
  | 3, _ => rfl
  | 4, _ => rfl
  | 5, _ => rfl
  | 6, _ => rfl
  | 7, _ =>
    show x.toUInt8 = (x >>> 0).toUInt8
    simp
theorem byte_at (x : UInt64) (m : Nat) (hm : m < 64) : (x.toNat : Int) / 2 ^ m % 256 = (((x >>> UInt64.ofNat m).toUInt8).toNat : Int) := by
  rw [← u8_wrap64, ← u64_shr x m hm, IntKind.wrap_u8]
  congr 2
theorem bytes_set (l : List UInt8) (i : Nat) (x : UInt8) : (cellsB l).toArray.setIfInBounds i (.int .u8 (x.toNat : Int)) = (cellsB (l.set i x)).toArray := by
  rw [cellsB_set]; simp
theorem zero16 : (#[.int .u8 0, .int .u8 0, .int .u8 0, .int .u8 0, .int .u8 0, .int .u8 0, .int .u8 0, .int .u8 0, .int .u8 0, .int .u8 0, .int .u8 0, .int .u8 0, .int .u8 0, .int .u8 0, .int .u8 0, .int .u8 0] : Array Value) = (cellsB zeroK).toArray := rfl
theorem under_key : Try.prog.underlying 23 = some (.array 16 5) := Try.underlying23
theorem info_key : (Try.prog.info? 23).map (·.size) = some 16 := by kernel_rfl
theorem cellsB_sizes (a b : List UInt8) (ha : a.length = 16) (hb : b.length = 16) : (cellsB a).toArray.size = (cellsB b).toArray.size := by simp [cellsB, ha, hb]
theorem cellsB_all (l : List UInt8) : (cellsB l).toArray.all (·.oneCell') = true := by
  rw [Array.all_eq_true_iff_forall_mem]
  intro x hx
  exact cellsB_one l x (by simpa using hx)
theorem cellsB_size (l : List UInt8) (h : l.length = 16) : (Try.prog.info? 23).map (·.size) = some (cellsB l).toArray.size := by rw [info_key]; simp [cellsB, h]

set_option maxHeartbeats 1000000 in
theorem block_any (p : W2) (w : World) : Calls Try.prog 109 #[.agg #[.int .u64 (p.1.toNat : Int), .int .u64 (p.2.toNat : Int)]] w fun e w' => e = .returned (.agg (cellsB (blk p)).toArray) ∧ Below w.heap.size w w' := by
  have HZ := Lib.hid zero16
  go_enter Try.func109, Try.ntmps109
  go_wp2_with fail
  rw [HZ.out]
  go_loopw [5] (fun vk wr => ∃ k : Nat, k ≤ 8 ∧ vk = .int .i64 k ∧ Blk wr w.heap.size 161 #[.int .u64 (p.1.toNat : Int), .int .u64 (p.2.toNat : Int)] ∧
      Blk wr (w.heap.size + 1) 23 (cellsB zeroK).toArray ∧ Blk wr (w.heap.size + 1 + 1) 23 (cellsB (stB p k)).toArray ∧ Below w.heap.size w wr) (fun vk _ => 8 - (intOf vk).toNat)
  case atStart => exact ⟨0, by omega, rfl, blk_a0 _ _ _ _ _, blk_a1 _ _ _ _ _, blk_a2 _ _ _ _ _, alloc3_bel _ _ _ _⟩
  case round =>
    obtain ⟨k, hk, rfl, hB1, hB2, hB3, hbel⟩ := hrel
    by_cases hk8 : k < 8
    · obtain ⟨m, hm⟩ : ∃ m, 56 - 8 * k = m := ⟨_, rfl⟩
      have hmi : (56 : Int) - 8 * k = m := by omega
      have hm0 : (m : Int) ≤ 56 := by omega
      have c0 := hB1.cell 0
      have c1 := hB1.cell 1
      simp only [List.getElem?_toArray, List.getElem?_cons_zero, List.getElem?_cons_succ] at c0 c1
      have d0 := (hB3.cell k).trans (bytes_get _ k (by rw [stB_length]; omega))
      have d1 := (hB3.cell (8 + k)).trans (bytes_get _ (8 + k) (by rw [stB_length]; omega))
      have f0 := hB3.frozen k
      have f1 := hB3.frozen (8 + k)
      have hx := u64_bd p.1
      have hy := u64_bd p.2
      have hki : (k : Int) < 8 := by omega
      have HS := Lib.hid (stB_step p k hk8)
      have HY1 : Hid ((p.1.toNat : Int) / 2 ^ m % 256 = (((by8 p.1).getD k 0).toNat : Int)) := by unfold Hid; rw [byte_at _ _ (by omega), by8_getD _ _ hk8, hm]
      have HY2 : Hid ((p.2.toNat : Int) / 2 ^ m % 256 = (((by8 p.2).getD k 0).toNat : Int)) := by unfold Hid; rw [byte_at _ _ (by omega), by8_getD _ _ hk8, hm]
      clear hm
      go_wp2_with fail
      go_region
      rw [HY1.out, HY2.out]
      have hB4 := (hB3.set_ k (.int .u8 (((by8 p.1).getD k 0).toNat : Int))).set_ (8 + k) (.int .u8 (((by8 p.2).getD k 0).toNat : Int))
      rw [bytes_set, bytes_set, HS.out] at hB4
      have HB4 := Lib.hid hB4
      clear hB4 c0 c1 d0 d1 f0 f1
      go_wp2_with fail
      go_roundw
      case rel => exact ⟨k + 1, by omega, by go_num, ((hB1.far (p := ⟨w.heap.size + 1 + 1, k, none⟩) (by simp; omega) _).far (p := ⟨w.heap.size + 1 + 1, 8 + k, none⟩) (by simp; omega) _).drew,
          ((hB2.far (p := ⟨w.heap.size + 1 + 1, k, none⟩) (by simp) _).far (p := ⟨w.heap.size + 1 + 1, 8 + k, none⟩) (by simp) _).drew, HB4.out.drew, ((hbel.setCell (p := ⟨w.heap.size + 1 + 1, k, none⟩) (by simp; omega) _).setCell (p := ⟨w.heap.size + 1 + 1, 8 + k, none⟩) (by simp; omega) _).drew⟩
      case measure => simp [intOf]; omega
    · obtain rfl : k = 8 := by omega
      rw [stB_fin] at hB3
      have hL : (blk p).length = 16 := rfl
      go_wp2_with (first
        | (refine wpList_load_row rfl 23 (.tmp 3) rfl (w.heap.size + 1 + 1) rfl 23 (cellsB (blk p)).toArray (0, 0) _ hB3 under_key rfl (cellsB_size _ hL) ?_)
        | (refine wpList_store_row rfl 23 (.tmp 2) (.tmp 28) rfl (w.heap.size + 1) (cellsB (blk p)).toArray rfl rfl 23 (cellsB zeroK).toArray hB2 (cellsB_size _ hL) (cellsB_sizes _ _ zeroK_length hL) (cellsB_all _) ?_))
      have hB5 := hB2.setRow (cellsB (blk p)).toArray
      refine bodyPost_ret (results_cell_row rfl _ _ (w.heap.size + 1) _ _ (0, 0) _ rfl hB5 under_key rfl (cellsB_size _ hL)) rfl ⟨rfl, below_setRow hbel (by omega) _⟩
end Go.Proofs.Ytinpiodfpnbllaa
