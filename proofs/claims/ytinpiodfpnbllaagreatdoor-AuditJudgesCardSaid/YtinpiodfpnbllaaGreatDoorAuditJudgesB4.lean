/-
  Lemmas and contracts, joined: part 4.
-/
import Derived.Deep.RegionHeld3
import Derived.Laws.ResultCell
import Derived.Great.BuildSlice
import Derived.Laws.CopyOwn
import Derived.Laws.Tables
import Derived.Test.YtinpiodfpnbllaaGreatDoorAuditJudgesB3
set_option linter.unusedSimpArgs false
set_option linter.unusedVariables false
set_option linter.unnecessarySimpa false
/- The reference's bytes, words and blocks. -/
namespace Go.Proofs.YtinpiodfpnbllaaGreatDoor
open Go.RowKit
set_option linter.unusedVariables false

theorem mul_add_u8 (x : UInt64) (c : UInt8) : IntKind.u64.wrap (IntKind.u64.wrap (256 * (x.toNat : Int)) + (c.toNat : Int)) = ((256 * x + c.toUInt64).toNat : Int) := by
  rw [u64_mul256, show (c.toNat : Int) = (c.toUInt64.toNat : Int) from by rw [UInt8.toNat_toUInt64], u64_add]
theorem mul_add_u8m (x : UInt64) (c : UInt8) : (256 * (x.toNat : Int) + (c.toNat : Int)) % 18446744073709551616 = ((256 * x + c.toUInt64).toNat : Int) := by
  rw [UInt64.toNat_add, UInt64.toNat_mul, UInt8.toNat_toUInt64, show (256 : UInt64).toNat = 256 from rfl]
  omega
theorem wd_take_succ' {l : List UInt8} {k : Nat} (h : k < l.length) : wd (l.take (k + 1)) = 256 * wd (l.take k) + (l.getD k 0).toUInt64 := by
  rw [List.take_succ_eq_append_getElem h, wd_snoc]
  simp [List.getD, List.getElem?_eq_getElem h]

set_option maxHeartbeats 1000000 in
theorem refValue_any (A : Option Addr) (c : Nat) (l : List UInt8) (w : World) {n : Nat} (hn : l.length = n) (h : BR w A c l) : Calls Tryz.prog 193 #[.slice A n c] w fun e w' => e = .returned (.int .u64 ((wd l).toNat : Int)) ∧ w = w' := by
  have hlen : (n : Int) ≤ 140737488351232 := by have := h.len; omega
  have HN := Lib.hid hn
  have H := Lib.hid h
  clear hn h
  go_enter Tryz.func193, Tryz.ntmps193
  go_wp2_with fail
  go_loop [3, 4] (fun vx vk => ∃ (k : Nat) (x : UInt64), k ≤ n ∧ vk = .int .i64 k ∧ vx = .int .u64 (x.toNat : Int) ∧ Hid (x = wd (l.take k))) (fun _ vk => n - (intOf vk).toNat)
  case atStart => exact ⟨0, 0, by omega, rfl, rfl, rfl⟩
  case round =>
    obtain ⟨k, x, hk, rfl, rfl, HX⟩ := hrel
    by_cases hkn : k < n
    · obtain ⟨b, off, rfl, hb, hc⟩ := H.out.at_ (i := k) (by have := HN.out; omega)
      have HS := Lib.hid (wd_take_succ' (l := l) (k := k) (by have := HN.out; omega))
      unfold bt at hc
      generalize l.getD k 0 = v at *
      have hv : (v.toNat : Int) ≤ 255 := by have := v.toNat_lt; omega
      have hx := u64_bd x
      go_wp2_with fail
      go_round
      case rel => exact ⟨k + 1, 256 * x + v.toUInt64, by omega, by go_num, by first | rw [mul_add_u8] | rw [mul_add_u8m] | skip, by unfold Hid; rw [HS.out, HX.out]⟩
      case measure => simp [intOf]; omega
    · have HT : Hid (l.take k = l) := List.take_of_length_le (by have := HN.out; omega)
      rw [HT.out] at HX
      go_wp2_with fail
      go_ret
      exact ⟨by rw [HX.out]; rfl, rfl⟩

/-- A part of a key in a block, as bytes. -/
theorem Blk.br {w : World} {g : Nat} {t : TypeId} {b : List UInt8} (h : Blk w g t (cellsB b).toArray) (o n c : Nat) (hn : o + n ≤ b.length) (hc : n ≤ c) (hc2 : c ≤ 100) : BR w (some ⟨g, o, none⟩) c ((b.drop o).take n) := by
  have hl : ((b.drop o).take n).length = n := by rw [List.length_take, List.length_drop]; omega
  refine ⟨⟨by simp [cellsB], by omega, by omega, by omega⟩, fun _ => ⟨g, o, rfl, h.lt, fun j v hv => ?_⟩⟩
  rw [h.cell]
  have hj : j < n := by
    rcases Nat.lt_or_ge j n with h' | h'
    · exact h'
    · rw [List.getElem?_eq_none (by rw [cellsB_length, hl]; exact h')] at hv; cases hv
  rw [← hv]
  simp [cellsB, List.getElem?_take, hj, List.getElem?_drop]
set_option maxHeartbeats 1000000 in
theorem refWords_key (b : List UInt8) (w : World) (hb : b.length = 16) : Calls Tryz.prog 160 #[.agg (cellsB b).toArray] w fun e w' => e = .returned (.tuple #[.int .u64 ((wds b).1.toNat : Int), .int .u64 ((wds b).2.toNat : Int)]) ∧ Below w.heap.size w w' := by
  have hbl : (cellsB b).length = 16 := by rw [cellsB_length, hb]
  have hB := Blk.new w 24 (cellsB b).toArray
  have H1 := Lib.hid (hB.br 0 8 16 (by omega) (by omega) (by omega))
  have H2 := Lib.hid (hB.br 8 8 8 (by omega) (by omega) (by omega))
  have L1 : Hid (((b.drop 0).take 8).length = 8) := by unfold Hid; simp; omega
  have L2 : Hid (((b.drop 8).take 8).length = 8) := by unfold Hid; simp; omega
  have HE : Hid (wd ((b.drop 0).take 8) = (wds b).1 ∧ wd ((b.drop 8).take 8) = (wds b).2) := by
    refine ⟨rfl, ?_⟩
    rw [List.take_of_length_le (by simp; omega)]
    rfl
  obtain ⟨W1, hW1⟩ : ∃ W : World, W = w.alloc (.cells (cellsB b).toArray 24) := ⟨_, rfl⟩
  have b1 : Below w.heap.size w W1 := by rw [hW1]; exact alloc_bel _ _
  rw [← hW1] at H1 H2
  have HW := Lib.hid hW1
  clear hb hB hW1
  go_enter Tryz.func160, Tryz.ntmps160
  go_wp2_with fail
  rw [← HW.out]
  go_quiet ((first | (go_at_call 193; exact quiet_left' (refValue_any _ _ _ _ L1.out (H1.out.drewN _))) | (go_at_call 193; exact quiet_left' (refValue_any _ _ _ _ L2.out (H2.out.drewN _)))))
  go_wp2_with fail
  go_ret2
  exact ⟨by rw [HE.out.1, HE.out.2]; rfl, below_drewN b1 _⟩

/-- The lowest bytes of a word, the highest first. -/
def bysN (n : UInt64) : Nat → List UInt8
  | 0 => []
  | i + 1 => (n >>> UInt64.ofNat (8 * i)).toUInt8 :: bysN n i
theorem bysN_length (n : UInt64) (i : Nat) : (bysN n i).length = i := by
  induction i with
  | zero => rfl
  | succ i ih => rw [bysN, List.length_cons, ih]
theorem bysN_8 (n : UInt64) : bysN n 8 = by8 n := by
  have e : (n >>> UInt64.ofNat (8 * 0)) = n := by simp
  simp only [bysN, e]
  rfl
theorem by8_split (n : UInt64) : by8 n = (n >>> 56).toUInt8 :: bysN n 7 := by rw [← bysN_8]; rfl
/-- The number that is left after i bytes. -/
theorem shr_div (n : UInt64) (i : Nat) (hi : i < 8) : (n >>> UInt64.ofNat (8 * i)).toNat = n.toNat / 256 ^ i := by
  rw [toNat_shr _ _ (by omega), Nat.pow_mul]
theorem byte_mod (n : UInt64) (i : Nat) (hi : i < 8) {m : Nat} (hm : m = n.toNat / 256 ^ i) : ((m : Nat) : Int) % 256 = (((n >>> UInt64.ofNat (8 * i)).toUInt8.toNat : Nat) : Int) := by
  rw [UInt64.toNat_toUInt8, shr_div n i hi, ← hm]
  omega

set_option maxHeartbeats 1000000 in
theorem refBytes_any (n : UInt64) (size : Nat) (w : World) (hs : size ≤ 8) : Calls Tryz.prog 159 #[.int .u64 (n.toNat : Int), .int .i64 (size : Int)] w fun e w' => ∃ A c, e = .returned (.slice A size c) ∧ OB w.heap.size w' A c (bysN n size) ∧ Below w.heap.size w w' := by
  have hsi : (size : Int) ≤ 8 := by omega
  have hn := u64_bd n
  have HS := Lib.hid hs
  clear hs
  go_enter Tryz.func159, Tryz.ntmps159
  go_wp2_with fail
  go_loopw [0, 5, 6] (fun vn vo vi wr => ∃ (i m : Nat) (A : Option Addr) (c : Nat), i ≤ size ∧ vi = .int .i64 (i : Int) ∧ vn = .int .u64 (m : Int) ∧ (m : Int) ≤ 18446744073709551615 ∧ Hid (m = n.toNat / 256 ^ i) ∧ vo = .slice A i c ∧ Hid (OB w.heap.size wr A c (bysN n i)) ∧ Below w.heap.size w wr) (fun _ _ vi _ => size - (intOf vi).toNat)
  case atStart => exact ⟨0, n.toNat, none, 0, by omega, rfl, rfl, hn, by simp [Hid], rfl, OB.nil' _ _, Below.refl _ _⟩
  case round =>
    obtain ⟨i, m, A, c, hi, rfl, rfl, hm, HM, rfl, HO, hbel⟩ := hrel
    by_cases hlt : i < size
    · have hii : (i : Int) < size := by omega
      have HB := Lib.hid (byte_mod n i (by have := HS.out; omega) HM.out)
      have HD : Hid (((m : Nat) : Int) / 256 = ((m / 256 : Nat) : Int)) := by unfold Hid; omega
      have HM2 : Hid (m / 256 = n.toNat / 256 ^ (i + 1)) := by unfold Hid; rw [HM.out, Nat.div_div_eq_div_mul, Nat.pow_succ]
      have HMB : Hid (((m / 256 : Nat) : Int) ≤ 18446744073709551615) := by unfold Hid; omega
      obtain ⟨v, hv⟩ : ∃ v, (n >>> UInt64.ofNat (8 * i)).toUInt8 = v := ⟨_, rfl⟩
      have HV : Hid (bysN n (i + 1) = v :: bysN n i) := by unfold Hid; rw [bysN, hv]
      rw [hv] at HB
      clear hv
      have HLE := Lib.hid (bysN_length n i)
      go_wp2_with (at_builtin; rw [HB.out]; go_loud (refine wpList_append_bytes _ rfl (.tmp 15) (.tmp 16) rfl w.heap.size (some ⟨wr.heap.size, 0, none⟩) 1 1 [v] rfl rfl (OB.lit w.heap.size wr [v] hbel.size (by simp) rfl) A i c (bysN n i) HLE.out rfl (((HO.out.br (by have := HLE.out; omega)).below (alloc_bel _ _)).src HLE.out) (by omega) (by have := hbel.size; simp; omega) ?_); intro A1 c1 w1 hon1 hbl1 hg1; clear hg1; have HON1 := Lib.hid hon1; clear hon1)
      rw [HD.out]
      go_roundw
      case rel => exact ⟨i + 1, m / 256, A1, c1, by omega, by go_num, rfl, HMB.out, HM2, by rw [Nat.add_comm], by rw [HV.out]; exact HON1.out, (hbel.alloc hbel.size _).trans hbl1⟩
      case measure => simp [intOf]; omega
    · obtain rfl : i = size := by omega
      go_wp2_with fail
      go_ret
      exact ⟨A, c, rfl, HO.out, hbel⟩

/-- The first 16 bytes, zeros where there are none. -/
def padK (l : List UInt8) : List UInt8 := (List.range 16).map fun i => l.getD i 0
theorem padK_length (l : List UInt8) : (padK l).length = 16 := by simp [padK]
theorem padK_16 {l : List UInt8} (h : l.length = 16) : padK l = l := by
  match l, h with
  | [_, _, _, _, _, _, _, _, _, _, _, _, _, _, _, _], _ => rfl
/-- .. after k bytes. -/
def padS (l : List UInt8) (k : Nat) : List UInt8 := (List.range 16).map fun i => if i < k then l.getD i 0 else 0
theorem padS_length (l : List UInt8) (k : Nat) : (padS l k).length = 16 := by simp [padS]
theorem padS_step (l : List UInt8) (k : Nat) (hk : k < 16) : (padS l k).set k (l.getD k 0) = padS l (k + 1) := by
  refine List.ext_getElem (by simp [padS]) fun i h1 h2 => ?_
  simp only [padS, List.getElem_set, List.getElem_map, List.getElem_range]
  by_cases h : k = i
  · subst h; simp
  · rw [if_neg h]
    by_cases h3 : i < k
    · rw [if_pos h3, if_pos (by omega)]
    · rw [if_neg h3, if_neg (by omega)]
theorem padS_fin (l : List UInt8) (k : Nat) (hk : k = 16 ∨ l.length ≤ k) : padS l k = padK l := by
  refine List.ext_getElem (by simp [padS, padK]) fun i h1 h2 => ?_
  simp only [padS, padK, List.getElem_map, List.getElem_range]
  have hi : i < 16 := by simpa [padS] using h1
  by_cases h : i < k
  · rw [if_pos h]
  · rw [if_neg h]
    rcases hk with hk | hk
    · omega
    · simp [List.getD, List.getElem?_eq_none (show l.length ≤ i by omega)]
set_option maxHeartbeats 1000000 in
theorem refKey_any (A : Option Addr) (c : Nat) (l : List UInt8) (w : World) {n : Nat} (hn : l.length = n) (h : BR w A c l) : Calls Tryz.prog 165 #[.slice A n c] w fun e w' => e = .returned (.agg (cellsB (padK l)).toArray) ∧ Below w.heap.size w w' := by
  have hlen : (n : Int) ≤ 140737488351232 := by have := h.len; omega
  have HN := Lib.hid hn
  have H := Lib.hid h
  have HZ := Lib.hid zero16
  clear hn h
  go_enter Tryz.func165, Tryz.ntmps165
  go_wp2_with fail
  rw [HZ.out]
  go_loopw [4] (fun vk wr => ∃ k : Nat, k ≤ 16 ∧ k ≤ n ∧ vk = .int .i64 (k : Int) ∧ Blk wr w.heap.size 24 (cellsB zeroK).toArray ∧ Blk wr (w.heap.size + 1) 24 (cellsB (padS l k)).toArray ∧ Below w.heap.size w wr) (fun vk _ => 16 - (intOf vk).toNat)
  case atStart => exact ⟨0, by omega, by omega, rfl, blk_b0 _ _ _ _, blk_b1 _ _ _ _, alloc2_bel _ _ _⟩
  case round =>
    obtain ⟨k, hk, hkn, rfl, hB1, hB2, hbel⟩ := hrel
    by_cases h1 : k < 16 ∧ k < n
    · obtain ⟨h1, h2⟩ := h1
      obtain ⟨b, off, rfl, hb, hc⟩ := (H.out.below hbel).at_ (i := k) (by have := HN.out; omega)
      have HS := Lib.hid (padS_step l k h1)
      unfold bt at hc
      generalize l.getD k 0 = v at *
      have d0 := (hB2.cell k).trans (bytes_get _ k (by rw [padS_length]; omega))
      have f0 := hB2.frozen k
      have hki : (k : Int) < n := by omega
      have hki2 : (k : Int) < 16 := by omega
      have HB3 : Hid (Blk (wr.setCell ⟨w.heap.size + 1, k, none⟩ (.int .u8 (v.toNat : Int))) (w.heap.size + 1) 24 (cellsB (padS l (k + 1))).toArray) := by
        have := hB2.set_ k (.int .u8 (v.toNat : Int))
        rw [bytes_set, HS.out] at this
        exact this
      go_wp2_with fail
      go_roundw
      case rel => exact ⟨k + 1, by omega, by omega, by go_num, hB1.far (p := ⟨w.heap.size + 1, k, none⟩) (by simp) _, HB3.out, hbel.setCell (p := ⟨w.heap.size + 1, k, none⟩) (by simp) _⟩
      case measure => simp [intOf]; omega
    · have HF : Hid (padS l k = padK l) := padS_fin l k (by have := HN.out; omega)
      rw [HF.out] at hB2
      have hL := padK_length l
      have HB1 := Lib.hid hB1
      by_cases h16 : k < 16
      · obtain rfl : k = n := by omega
        go_wp2_with (first
          | (refine wpList_load_row rfl 24 (.tmp 3) rfl (w.heap.size + 1) rfl 24 (cellsB (padK l)).toArray (0, 0) _ hB2 under_key rfl (cellsB_size _ hL) ?_)
          | (refine wpList_store_row rfl 24 (.tmp 2) (.tmp 21) rfl w.heap.size (cellsB (padK l)).toArray rfl rfl 24 (cellsB zeroK).toArray HB1.out (cellsB_size _ hL) (cellsB_sizes _ _ zeroK_length hL) (cellsB_all _) ?_))
        exact bodyPost_ret (results_cell_row rfl _ _ w.heap.size _ _ (0, 0) _ rfl (HB1.out.setRow (cellsB (padK l)).toArray) under_key rfl (cellsB_size _ hL)) rfl ⟨rfl, below_setRow hbel (Nat.le_refl _) _⟩
      · obtain rfl : k = 16 := by omega
        go_wp2_with (first
          | (refine wpList_load_row rfl 24 (.tmp 3) rfl (w.heap.size + 1) rfl 24 (cellsB (padK l)).toArray (0, 0) _ hB2 under_key rfl (cellsB_size _ hL) ?_)
          | (refine wpList_store_row rfl 24 (.tmp 2) (.tmp 21) rfl w.heap.size (cellsB (padK l)).toArray rfl rfl 24 (cellsB zeroK).toArray HB1.out (cellsB_size _ hL) (cellsB_sizes _ _ zeroK_length hL) (cellsB_all _) ?_))
        exact bodyPost_ret (results_cell_row rfl _ _ w.heap.size _ _ (0, 0) _ rfl (HB1.out.setRow (cellsB (padK l)).toArray) under_key rfl (cellsB_size _ hL)) rfl ⟨rfl, below_setRow hbel (Nat.le_refl _) _⟩
end Go.Proofs.YtinpiodfpnbllaaGreatDoor

/- The reference's blocks of words, and of a tag. -/
namespace Go.Proofs.YtinpiodfpnbllaaGreatDoor
open Go.RowKit
set_option linter.unusedVariables false
attribute [local go_sem] run_storeCells_key

theorem refBytes_8 (n : UInt64) (w : World) : Calls Tryz.prog 159 #[.int .u64 (n.toNat : Int), .int .i64 8] w fun e w' => ∃ A c, e = .returned (.slice A 8 c) ∧ OB w.heap.size w' A c (bysN n 8) ∧ Below w.heap.size w w' := refBytes_any n 8 w (by omega)
theorem refBytes_7 (n : UInt64) (w : World) : Calls Tryz.prog 159 #[.int .u64 (n.toNat : Int), .int .i64 7] w fun e w' => ∃ A c, e = .returned (.slice A 7 c) ∧ OB w.heap.size w' A c (bysN n 7) ∧ Below w.heap.size w w' := refBytes_any n 7 w (by omega)
set_option maxHeartbeats 1000000 in
theorem refBlock2_any (x y : UInt64) (w : World) : Calls Tryz.prog 164 #[.int .u64 (x.toNat : Int), .int .u64 (y.toNat : Int)] w fun e w' => e = .returned (.agg (cellsB (blk (x, y))).toArray) ∧ Below w.heap.size w w' := by
  have HZ := Lib.hid zero16
  have HE : Hid (padK (bysN x 8 ++ bysN y 8) = blk (x, y)) := by unfold Hid; rw [bysN_8, bysN_8, padK_16 rfl]; rfl
  have hall := all16 (blk (x, y))
  have hl : (cellsB (blk (x, y))).length = 16 := rfl
  have L1 := Lib.hid (bysN_length x 8)
  have L2 := Lib.hid (bysN_length y 8)
  have L3 : Hid ((bysN x 8 ++ bysN y 8).length = 16) := by unfold Hid; rw [List.length_append, L1.out, L2.out]
  obtain ⟨bb, hbb⟩ : ∃ bb, blk (x, y) = bb := ⟨_, rfl⟩
  have HBL : Hid (bb.length = 16) := by rw [← hbb]; rfl
  rw [hbb] at HE hall hl ⊢
  clear hbb
  go_enter Tryz.func164, Tryz.ntmps164
  go_wp2_with (first
    | (go_at_call 159; (with_reducible refine (refBytes_8 x _).mono ?_); rintro e w1 ⟨A1, c1, rfl, ho1, hb1⟩; rw [HZ.out] at hb1; have HO1 := Lib.hid ho1; clear ho1)
    | (go_at_call 159; (with_reducible refine (refBytes_8 y _).mono ?_); rintro e w2 ⟨A2, c2, rfl, ho2, hb2⟩; have HO2 := Lib.hid ho2; clear ho2)
    | (at_builtin; refine wpList_append_bytes _ rfl (.tmp 6) (.tmp 8) rfl _ A1 8 c1 (bysN x 8) L1.out rfl (HO1.out.below hb2) A2 8 c2 (bysN y 8) L2.out rfl ((HO2.out.br (by have := L2.out; omega)).src L2.out) (by omega) (Nat.le_trans hb1.size hb2.size) ?_; intro A3 c3 w3 hon3 hbl3 hg3; clear hg3; have HO3 := Lib.hid hon3; clear hon3)
    | (go_at_call 165; refine (refKey_any A3 c3 _ _ L3.out (HO3.out.br (by have := L3.out; omega))).mono ?_; rintro e w4 ⟨rfl, hb4⟩; rw [HE.out]; have hb01 := hb1.trans ((hb2.mono hb1.size).trans hbl3); have hB := ((Blk.new w 24 (cellsB zeroK).toArray).below hb01 (by simp)).below' hb4; have hr5 : (rowAt w4 w.heap.size).size = 16 := by { rw [hB.row]; rfl }; have hf5 := hB.free; have HB := Lib.hid hB; clear hB))
  have hbF : Below w.heap.size w w4 := (alloc_bel w _).trans ((hb1.trans ((hb2.mono hb1.size).trans (hbl3.trans (hb4.mono (Nat.le_trans hb1.size (Nat.le_trans hb2.size hbl3.size)))))).mono (alloc_bel w (.cells (cellsB zeroK).toArray 24)).size)
  exact bodyPost_ret (results_cell_row rfl _ _ w.heap.size _ _ (0, 0) _ rfl (HB.out.setRow (cellsB bb).toArray) under_key rfl (cellsB_size _ HBL.out)) rfl ⟨rfl, below_setRow hbF (Nat.le_refl _) _⟩

/-- The block of a tag. -/
theorem tagS_bytes (t : UInt8) (c n : UInt64) (hc : c.toNat < 72057594037927936) : t :: (bysN c 7 ++ bysN n 8) = tagS t c n := by
  have hx : (t.toUInt64 <<< 56 ||| c).toNat = t.toNat * 72057594037927936 + c.toNat := by
    rw [UInt64.toNat_or, UInt64.toNat_shiftLeft, UInt8.toNat_toUInt64, show (56 : UInt64).toNat % 64 = 56 from rfl, Nat.shiftLeft_eq]
    have ht := t.toNat_lt
    rw [show t.toNat * 2 ^ 56 % 2 ^ 64 = t.toNat * 2 ^ 56 from by omega, or_add 56 (by omega)]
  unfold tagS blk
  dsimp only
  rw [by8_split, bysN_8]
  generalize (t.toUInt64 <<< 56 ||| c) = z at hx
  have e1 : (z >>> 56).toUInt8 = t := by
    apply UInt8.toNat_inj.1
    rw [UInt64.toNat_toUInt8, show (56 : UInt64) = UInt64.ofNat 56 from rfl, toNat_shr _ _ (by omega), hx]
    have ht := t.toNat_lt
    omega
  have e2 : bysN z 7 = bysN c 7 := by
    have hb : ∀ i, i < 7 → (z >>> UInt64.ofNat (8 * i)).toUInt8 = (c >>> UInt64.ofNat (8 * i)).toUInt8 := fun i hi => by
      apply UInt8.toNat_inj.1
      rw [UInt64.toNat_toUInt8, UInt64.toNat_toUInt8, toNat_shr _ _ (by omega), toNat_shr _ _ (by omega), hx]
      match i, hi with
      | 0, _ => omega
      | 1, _ => omega
      | 2, _ => omega
      | 3, _ => omega
      | 4, _ => omega
      | 5, _ => omega
      | 6, _ => omega
    simp only [bysN]
    rw [hb 0 (by omega), hb 1 (by omega), hb 2 (by omega), hb 3 (by omega), hb 4 (by omega), hb 5 (by omega), hb 6 (by omega)]
  rw [e1, e2]
  rfl

end Go.Proofs.YtinpiodfpnbllaaGreatDoor

/- The reference's round keys, and Encrypt, Derive, Number. -/
namespace Go.Proofs.YtinpiodfpnbllaaGreatDoor
open Go.RowKit
set_option linter.unusedVariables false
attribute [local go_sem] run_storeCells_key

theorem quiet_n {P : Program} {f : FuncId} {args : Array Value} {w : World} {n : Nat} {v : Value}
    (h : Calls P f args (w.drewN n) fun e w' => e = .returned v ∧ ∃ m, w' = (w.drewN n).drewN m) : Calls P f args (w.drewN n) fun e w'' => e = .returned v ∧ ∃ m, w'' = w.drewN m :=
  h.mono fun _ _ ⟨he, m, hm⟩ => ⟨he, n + m, by rw [hm, World.drewN_drewN]⟩
def cellsU (l : List UInt64) : List Value := l.map fun x => .int .u64 (x.toNat : Int)
theorem cellsU_append (a b : List UInt64) : cellsU (a ++ b) = cellsU a ++ cellsU b := by simp [cellsU]
theorem u64_info : (Tryz.prog.info? 66).map (fun i => (i.zero, i.size, i.bytes)) = some (some (.int .u64 0), 1, 8) := by kernel_rfl
/-- The round keys up to number i. -/
def ksL (k : W2) (i : Nat) : List UInt64 := (List.range (i + 1)).map fun j => (ksS k j).2
theorem ksL_length (k : W2) (i : Nat) : (ksL k i).length = i + 1 := by simp [ksL]
theorem ksL_succ (k : W2) (i : Nat) : ksL k (i + 1) = ksL k i ++ [(ksS k (i + 1)).2] := by rw [ksL, List.range_succ]; simp [ksL]
theorem rnd_fst (i : Nat) (x y : UInt64) (hi : i < 64) : bits .xor .u64 (IntKind.u64.wrap ((y.toNat : Int) + ((rotr8 x).toNat : Int))) (i : Int) = ((rnd (UInt64.ofNat i) (x, y)).1.toNat : Int) := by
  have e : (i : Int) = ((UInt64.ofNat i).toNat : Int) := by rw [UInt64.toNat_ofNat', Nat.mod_eq_of_lt (by omega)]
  rw [u64_add, e, u64_xor, UInt64.add_comm]
  rfl
theorem rnd_fstm (i : Nat) (x y : UInt64) (hi : i < 64) : bits .xor .u64 (((y.toNat : Int) + ((rotr8 x).toNat : Int)) % 18446744073709551616) (i : Int) = ((rnd (UInt64.ofNat i) (x, y)).1.toNat : Int) := by
  rw [← rnd_fst i x y hi, u64_addm, u64_add]
theorem rnd_fstk (k x y : UInt64) : bits .xor .u64 (IntKind.u64.wrap (((rotr8 x).toNat : Int) + (y.toNat : Int))) (k.toNat : Int) = ((rnd k (x, y)).1.toNat : Int) := by
  rw [u64_add, u64_xor]
  rfl
theorem rnd_fstkm (k x y : UInt64) : bits .xor .u64 ((((rotr8 x).toNat : Int) + (y.toNat : Int)) % 18446744073709551616) (k.toNat : Int) = ((rnd k (x, y)).1.toNat : Int) := by
  rw [← rnd_fstk k x y, u64_addm, u64_add]
theorem rnd_snd (k x y : UInt64) : bits .xor .u64 ((rotl3 y).toNat : Int) ((rnd k (x, y)).1.toNat : Int) = ((rnd k (x, y)).2.toNat : Int) := by
  rw [u64_xor]
  rfl

set_option maxHeartbeats 1000000 in
set_option maxRecDepth 100000 in
theorem refRoundKeys_any (k : List UInt8) (w : World) (hk : k.length = 16) : Calls Tryz.prog 161 #[.agg (cellsB k).toArray] w fun e w' => ∃ A c, e = .returned (.slice A 32 c) ∧ Rd w' 1 A c 32 (cellsU (ksL (wds k) 31)) ∧ Below w.heap.size w w' := by
  have HK := Lib.hid hk
  have hkl : (cellsB k).length = 16 := by rw [cellsB_length, hk]
  clear hk
  go_enter Tryz.func161, Tryz.ntmps161
  go_wp2_with (go_at_call 160; rw [fold16B k HK.out]; refine (refWords_key k _ HK.out).mono ?_; rintro e w1 ⟨rfl, hb1⟩)
  have hb01 : Below w.heap.size w w1 := (alloc_bel w _).trans (hb1.mono (alloc_bel w (.cells (cellsB k).toArray 24)).size)
  go_loopw [3, 4, 5, 6] (fun vl va vo vi wr => ∃ (i : Nat) (A : Option Addr) (c : Nat), i ≤ 31 ∧ vi = .int .i64 (i : Int) ∧ vl = .int .u64 ((ksS (wds k) i).1.toNat : Int) ∧ va = .int .u64 ((ksS (wds k) i).2.toNat : Int) ∧ vo = .slice A (i + 1) c ∧
      Hid (wr.ownsRow w.heap.size 66 1 (.slice A (i + 1) c) (i + 1) (cellsU (ksL (wds k) i))) ∧ Below w.heap.size w wr) (fun _ _ _ vi _ => 31 - (intOf vi).toNat)
  case atStart =>
    refine ⟨0, some ⟨w1.heap.size, 0, none⟩, 1, by omega, rfl, rfl, rfl, rfl, ?_, hb01.alloc hb01.size _⟩
    exact World.ownsRow_lit (e := 66) (size := 1) w1 (cellsU (ksL (wds k) 0)).toArray 1 hb01.size (by simp [maxLen]) (by simp [cellsU, ksL])
  case round =>
    obtain ⟨i, A, c, hi, rfl, rfl, rfl, rfl, HO, hbel⟩ := hrel
    by_cases hlt : i < 31
    · have hii : (i : Int) < 31 := by omega
      have HKS : Hid (ksS (wds k) (i + 1) = rnd (UInt64.ofNat i) (ksS (wds k) i)) := rfl
      have HLS := Lib.hid (ksL_succ (wds k) i)
      obtain ⟨⟨x, y⟩, hp⟩ : ∃ p, ksS (wds k) i = p := ⟨_, rfl⟩
      rw [hp] at HKS ⊢
      have hx := u64_bd x
      have hy := u64_bd y
      have E1 := Lib.hid (rnd_fst i x y (by omega))
      have E1m := Lib.hid (rnd_fstm i x y (by omega))
      have E2 := Lib.hid (rnd_snd (UInt64.ofNat i) x y)
      obtain ⟨i0, hi0, hz0, hz1, hz2⟩ := info_parts u64_info
      have HI0 := Lib.hid hi0
      have HI1 := Lib.hid hz0
      have HI2 := Lib.hid hz1
      have HI3 := Lib.hid hz2
      clear hp hi0 hz0 hz1 hz2
      go_wp2_with (first
        | (go_at_call 162; refine (refRotr_8 x _).mono ?_; rintro e w2 ⟨rfl, n2, rfl⟩)
        | (go_at_call 163; refine (refRotl_3 y _).mono ?_; rintro e w3 ⟨rfl, n3, rfl⟩; first | rw [E1.out] | rw [E1m.out])
        | (at_builtin; rw [E2.out]; refine wpList_append_src _ rfl (.tmp 29) (.tmp 31) 213 rfl w.heap.size 66 i0 (.int .u64 0) 1 8 Tryz.underlying213 HI0.out HI1.out HI2.out HI3.out rfl (by omega) A (i + 1) c (cellsU (ksL (wds k) i)) rfl (ownsRow_below HO.out ((below_drewN (Below.refl _ wr) _).alloc (Nat.le_refl _) _))
            (some ⟨wr.heap.size, 0, none⟩) 1 1 [.int .u64 ((rnd (UInt64.ofNat i) (x, y)).2.toNat : Int)] rfl (Src.one _ _ _) (by simp [Value.oneCell']) (by simp only [maxLen]; omega) (by omega) (by have := hbel.size; simp; omega) ?_; intro A2 c2 w5 hon5 hg5 _; have HON5 := Lib.hid hon5; have hb5 := grown_below ((below_drewN hbel (n2 + n3)).alloc hbel.size _) (ownsRow_below HO.out ((below_drewN (Below.refl _ wr) (n2 + n3)).alloc (Nat.le_refl _) _)) hg5 (by have := hbel.size; simp; omega) (Nat.le_refl _); clear hon5 hg5))
      go_roundw
      case rel => exact ⟨i + 1, A2, c2, by omega, by go_num, by rw [HKS.out], by rw [HKS.out], rfl, by rw [HLS.out, cellsU_append, HKS.out]; exact HON5.out, hb5⟩
      case measure => simp [intOf]; omega
    · obtain rfl : i = 31 := by omega
      go_wp2_with fail
      go_ret
      exact ⟨A, c, rfl, Rd.of_own HO.out (by omega), hbel⟩
end Go.Proofs.YtinpiodfpnbllaaGreatDoor

/- The reference's Encrypt, Derive, Number. -/
namespace Go.Proofs.YtinpiodfpnbllaaGreatDoor
open Go.RowKit
set_option linter.unusedVariables false
attribute [local go_sem] run_storeCells_key

theorem ksL_at (k : W2) (i : Nat) (h : i < 32) : (cellsU (ksL k 31))[i]? = some (.int .u64 ((ksS k i).2.toNat : Int)) := by
  simp [cellsU, ksL, List.getElem?_range h]
set_option maxHeartbeats 1000000 in
set_option maxRecDepth 100000 in
theorem refEncrypt_any (k b : List UInt8) (w : World) (hk : k.length = 16) (hb : b.length = 16) : Calls Tryz.prog 126 #[.agg (cellsB k).toArray, .agg (cellsB b).toArray] w fun e w' => e = .returned (.agg (cellsB (encS k b)).toArray) ∧ Below w.heap.size w w' := by
  have HK := Lib.hid hk
  have HB := Lib.hid hb
  have hkl : (cellsB k).length = 16 := by rw [cellsB_length, hk]
  have hbl : (cellsB b).length = 16 := by rw [cellsB_length, hb]
  have HZ := Lib.hid zero16
  clear hk hb
  go_enter Tryz.func126, Tryz.ntmps126
  go_wp2_with (first
    | (go_at_call 160; rw [fold16B b HB.out, HZ.out]; refine (refWords_key b _ HB.out).mono ?_; rintro e w1 ⟨rfl, hb1⟩; have hck : ∀ j, w1.cell? ⟨w.heap.size, j, none⟩ = (cellsB k).toArray[j]? := fun j => ((blk_a0 w (cellsB k).toArray 24 _ _).below' hb1).cell j)
    | (go_at_call 161; rw [fold16B k HK.out]; refine (refRoundKeys_any k _ HK.out).mono ?_; rintro e w2 ⟨A, c, rfl, hR, hb2⟩; have HR := Lib.hid hR; clear hR))
  have HB0 : Hid (Blk w2 (w.heap.size + 1 + 1) 24 (cellsB zeroK).toArray) := (((blk_a2 w _ _ (cellsB zeroK).toArray 24).below' hb1)).below' hb2
  have hb02 : Below w.heap.size w w2 := (alloc3_bel w _ _ _).trans ((hb1.trans (hb2.mono hb1.size)).mono (alloc3_bel w _ _ _).size)
  have hs2 : w.heap.size + 1 + 1 < w2.heap.size := HB0.out.lt
  clear hck
  go_loopw [5, 6, 8] (fun vx vy vi wr => ∃ i : Nat, i ≤ 32 ∧ vi = .int .i64 (i : Int) ∧ vx = .int .u64 ((enW (wds k) (wds b) i).1.toNat : Int) ∧ vy = .int .u64 ((enW (wds k) (wds b) i).2.toNat : Int) ∧ Below w2.heap.size w2 wr) (fun _ _ vi _ => 32 - (intOf vi).toNat)
  case atStart => exact ⟨0, by omega, rfl, rfl, rfl, Below.refl _ _⟩
  case round =>
    obtain ⟨i, hi, rfl, rfl, rfl, hbel⟩ := hrel
    by_cases hlt : i < 32
    · have hii : (i : Int) < 32 := by omega
      have HES : Hid (enW (wds k) (wds b) (i + 1) = rnd (ksS (wds k) i).2 (enW (wds k) (wds b) i)) := rfl
      obtain ⟨g, off, rfl, hg, v, hv, hc⟩ := Rd.at1 (HR.out.below hbel) hlt
      rw [ksL_at _ _ hlt] at hv
      injection hv with hv
      subst hv
      obtain ⟨⟨x, y⟩, hp⟩ : ∃ p, enW (wds k) (wds b) i = p := ⟨_, rfl⟩
      obtain ⟨u, hu⟩ : ∃ u, (ksS (wds k) i).2 = u := ⟨_, rfl⟩
      rw [hp, hu] at HES
      rw [hp]
      rw [hu] at hc
      have hx := u64_bd x
      have hy := u64_bd y
      have E1 := Lib.hid (rnd_fstk u x y)
      have E1m := Lib.hid (rnd_fstkm u x y)
      have E2 := Lib.hid (rnd_snd u x y)
      clear hp hu
      go_wp2_with fail
      go_quiet ((go_at_call 162; exact quiet_n (refRotr_8 x _)))
      first | rw [E1.out] | rw [E1m.out] | skip
      go_wp2_with (go_at_call 163; refine (refRotl_3 y _).mono ?_; rintro e w3 ⟨rfl, n3, rfl⟩; first | rw [E1.out] | rw [E1m.out] | skip)
      rw [E2.out]
      go_roundw
      case rel => exact ⟨i + 1, by omega, by go_num, by rw [HES.out], by rw [HES.out], by first | exact below_drewN hbel _ | exact below_drewN (below_drewN hbel _) _⟩
      case measure => simp [intOf]; omega
    · obtain rfl : i = 32 := by omega
      have HE : Hid (encS k b = blk (enW (wds k) (wds b) 32)) := rfl
      obtain ⟨⟨x, y⟩, hp⟩ : ∃ p, enW (wds k) (wds b) 32 = p := ⟨_, rfl⟩
      rw [hp] at HE ⊢
      have hall := all16 (blk (x, y))
      have hl : (cellsB (blk (x, y))).length = 16 := rfl
      clear hp
      go_wp2_with (go_at_call 164; refine (refBlock2_any x y _).mono ?_; rintro e w5 ⟨rfl, hb5⟩; have hB := ((HB0.out.below' hbel).below' hb5); have hr5 : (rowAt w5 (w.heap.size + 1 + 1)).size = 16 := by { rw [hB.row]; rfl }; have hf5 := hB.free; have HB5 := Lib.hid hB; clear hB)
      have hbF : Below w.heap.size w w5 := hb02.trans ((hbel.trans (hb5.mono hbel.size)).mono hb02.size)
      exact bodyPost_ret (results_cell_row rfl _ _ (w.heap.size + 1 + 1) _ _ (0, 0) _ rfl (HB5.out.setRow (cellsB (blk (x, y))).toArray) under_key rfl (cellsB_size _ rfl)) rfl ⟨by rw [HE.out], below_setRow hbF (by omega) _⟩
end Go.Proofs.YtinpiodfpnbllaaGreatDoor

/- Undoing a round. -/
namespace Go.Proofs.YtinpiodfpnbllaaGreatDoor
open Go.RowKit
set_option linter.unusedVariables false

theorem deW_step (k p : W2) (j : Nat) (h : j < 32) : deW k p (32 - j) = bck (ksS k j).2 (deW k p (32 - (j + 1))) := by
  obtain ⟨m, hm⟩ : ∃ m, m = 32 - (j + 1) := ⟨_, rfl⟩
  rw [← hm, show 32 - j = m + 1 from by omega, deW, show 31 - m = j from by omega]
set_option maxHeartbeats 1000000 in
set_option maxRecDepth 100000 in
theorem back_any (p : W2) (k : UInt64) (w : World) : Calls Tryz.prog 107 #[.agg #[.int .u64 (p.1.toNat : Int), .int .u64 (p.2.toNat : Int)], .int .u64 (k.toNat : Int)] w fun e w' => e = .returned (.agg #[.int .u64 ((bck k p).1.toNat : Int), .int .u64 ((bck k p).2.toNat : Int)]) ∧ Below w.heap.size w w' := by
  obtain ⟨x, y⟩ := p
  dsimp only
  have hx := u64_bd x
  have hy := u64_bd y
  have hk := u64_bd k
  have HE : Hid (rotl8 ((x ^^^ k) - rotr3 (x ^^^ y)) = (bck k (x, y)).1 ∧ rotr3 (x ^^^ y) = (bck k (x, y)).2) := ⟨rfl, rfl⟩
  have hy3 := u64_bd (rotr3 (x ^^^ y))
  go_enter Tryz.func107, Tryz.ntmps107
  go_wp2_with fail
  simp only [u64_xor]
  go_at_call 155
  refine (RotateLeft64_r3 (x ^^^ y) _).mono ?_
  rintro e w1 ⟨rfl, rfl⟩
  go_wp2_with fail
  simp only [u64_xor, u64_sub]
  go_at_call 155
  refine (RotateLeft64_l8 _ _).mono ?_
  rintro e w1 ⟨rfl, rfl⟩
  rw [HE.out.1, HE.out.2]
  go_wp2_with fail
  exact bodyPost_ret (v := .agg #[.int .u64 ((bck k (x, y)).1.toNat : Int), .int .u64 ((bck k (x, y)).2.toNat : Int)]) (by simp [results, Tryz.results107, go_sem]) rfl
    ⟨rfl, alloc2_bel w _ _⟩
end Go.Proofs.YtinpiodfpnbllaaGreatDoor

/- The reference's Decrypt. -/
namespace Go.Proofs.YtinpiodfpnbllaaGreatDoor
open Go.RowKit
set_option linter.unusedVariables false
attribute [local go_sem] run_storeCells_key

theorem bck_snd (u x y : UInt64) : rotr3 (y ^^^ x) = (bck u (x, y)).2 := by rw [UInt64.xor_comm]; rfl
theorem bck_fst (u x y : UInt64) : rotl8 ((x ^^^ u) - (bck u (x, y)).2) = (bck u (x, y)).1 := rfl
end Go.Proofs.YtinpiodfpnbllaaGreatDoor

/- The reference's Derive, Number. -/
namespace Go.Proofs.YtinpiodfpnbllaaGreatDoor
open Go.RowKit
set_option linter.unusedVariables false
attribute [local go_sem] run_storeCells_key

end Go.Proofs.YtinpiodfpnbllaaGreatDoor

/- The check of a content key: the program's. -/
namespace Go.Proofs.YtinpiodfpnbllaaGreatDoor
open Go.RowKit
set_option linter.unusedVariables false
attribute [local go_sem] run_storeCells_key

/-- The check of a content key. -/
def chkS (k : List UInt8) : List UInt8 := derS k 53 0
set_option maxHeartbeats 1000000 in
set_option maxRecDepth 100000 in
theorem check_any (k : List UInt8) (w : World) (hk : k.length = 16) : Calls Tryz.prog 118 #[.agg (cellsB k).toArray] w fun e w' => e = .returned (.agg (cellsB (chkS k)).toArray) ∧ Below w.heap.size w w' := by
  have HK := Lib.hid hk
  have hkl : (cellsB k).length = 16 := by rw [cellsB_length, hk]
  have HZ := Lib.hid zero16
  have HD : Hid (∀ W, Calls Tryz.prog 49 #[.agg (cellsB k).toArray, .int .u8 53, .int .u64 0] W fun e w' => e = .returned (.agg (cellsB (chkS k)).toArray) ∧ Below W.heap.size W w') := fun W => Derive_any k 53 0 W hk
  have hl : (cellsB (chkS k)).length = 16 := rfl
  have hall := all16 (chkS k)
  clear hk
  go_enter Tryz.func118, Tryz.ntmps118
  go_wp2_with (go_at_call 49; rw [fold16B k HK.out, HZ.out]; refine (HD.out _).mono ?_; rintro e w1 ⟨rfl, hb1⟩; have hB1 := (blk_b1 w (.cells (cellsB k).toArray 24) (cellsB zeroK).toArray 24).below' hb1; have hr1 : (rowAt w1 (w.heap.size + 1)).size = 16 := by { rw [hB1.row]; rfl }; have hf1 := hB1.free; have HB1 := Lib.hid hB1; clear hB1)
  exact bodyPost_ret (results_cell_row rfl _ _ (w.heap.size + 1) _ _ (0, 0) _ rfl (HB1.out.setRow (cellsB (chkS k)).toArray) under_key rfl (cellsB_size _ rfl)) rfl ⟨rfl, below_setRow ((alloc2_bel w _ _).trans (hb1.mono (alloc2_bel w _ _).size)) (by omega) _⟩
end Go.Proofs.YtinpiodfpnbllaaGreatDoor

/- The content key of a recording: the reference's. -/
namespace Go.Proofs.YtinpiodfpnbllaaGreatDoor
open Go.RowKit
set_option linter.unusedVariables false
attribute [local go_sem] run_storeCells_key run_storeCells_new

theorem equalIn_keys (w : World) (a b : List UInt8) (ha : Hid (a.length = 16)) (hb : Hid (b.length = 16)) : (Op.equalIn 10000 24 (.agg (cellsB a).toArray) (.agg (cellsB b).toArray)).run Tryz.prog w = .ok (a == b) w := by
  have := run_equalIn_bytes (P := Tryz.prog) w 9998 24 5 16 Tryz.underlying24 Tryz.underlying5 (size_one (by kernel_rfl)) a b ha.out hb.out
  unfold cellsB
  have e : (fun x : UInt8 => Value.int .u8 (x.toNat : Int)) = Extern.Stop.cell := rfl
  rw [e, this]
attribute [local go_sem] equalIn_keys

end Go.Proofs.YtinpiodfpnbllaaGreatDoor

/- The program's xor of blocks, and the step of its digest. -/
namespace Go.Proofs.YtinpiodfpnbllaaGreatDoor
open Go.RowKit
set_option linter.unusedVariables false
attribute [local go_sem] run_storeCells_key equalIn_keys

theorem xorS_self {a : List UInt8} (h : a.length = 16) : xorS a a = zeroK := by
  refine List.ext_getElem (by simp [xorS]; rfl) fun i h1 h2 => ?_
  rw [show zeroK[i] = 0 from List.getElem_replicate _]
  simp [xorS]

set_option maxHeartbeats 1000000 in
set_option maxRecDepth 100000 in
theorem xor_same (a : List UInt8) (w : World) (ha : a.length = 16) : Calls Tryz.prog 151 #[.agg (cellsB a).toArray, .agg (cellsB a).toArray] w fun e w' => e = .returned (.agg (cellsB (xorS a a)).toArray) ∧ Below w.heap.size w w' := by
  have HA := Lib.hid ha
  have HZ := Lib.hid zero16
  have HXS := Lib.hid (xorS_self ha)
  have B2 := blk_a2 w (.cells (cellsB a).toArray 24) (.cells (cellsB a).toArray 24) (cellsB zeroK).toArray 24
  have hr3 : (rowAt (((w.alloc (.cells (cellsB a).toArray 24)).alloc (.cells (cellsB a).toArray 24)).alloc (.cells (cellsB zeroK).toArray 24)) (w.heap.size + 1 + 1)).size = 16 := by rw [B2.row]; rfl
  have hf3 := B2.free
  have HB2 := Lib.hid B2
  have hlz : (cellsB zeroK).length = 16 := rfl
  have haz := all16 zeroK
  have b0 := alloc3_bel w (.cells (cellsB a).toArray 24) (.cells (cellsB a).toArray 24) (.cells (cellsB zeroK).toArray 24)
  have hz : ∀ W, (Op.equalIn 10000 24 (.agg (cellsB a).toArray) (.agg (cellsB a).toArray)).run Tryz.prog W = .ok true W := fun W => by rw [equalIn_keys W a a HA.out HA.out]; simp
  clear ha B2
  go_enter Tryz.func151, Tryz.ntmps151
  go_wp2_with (first
    | (rw [HZ.out]; refine wpList_load_row rfl 24 (.tmp 2) rfl w.heap.size rfl 24 (cellsB a).toArray (0, 0) _ (blk_a0 w _ _ _ _) under_key rfl (cellsB_size _ HA.out) ?_)
    | (refine wpList_load_row rfl 24 (.tmp 3) rfl (w.heap.size + 1) rfl 24 (cellsB a).toArray (0, 0) _ (blk_a1 w _ _ _ _) under_key rfl (cellsB_size _ HA.out) ?_)
    | (refine wpList_buildTo rfl 24 #[] rfl (some 9) rfl (cellsB zeroK).toArray (by kernel_rfl) ?_))
  exact bodyPost_ret (results_cell_row rfl _ _ (w.heap.size + 1 + 1) _ _ (0, 0) _ rfl (HB2.out.setRow (cellsB zeroK).toArray) under_key rfl (cellsB_size _ rfl)) rfl ⟨by rw [HXS.out], below_setRow b0 (by omega) _⟩

set_option maxHeartbeats 1000000 in
set_option maxRecDepth 100000 in
theorem xor_any (a b : List UInt8) (w : World) (ha : a.length = 16) (hb : b.length = 16) : Calls Tryz.prog 151 #[.agg (cellsB a).toArray, .agg (cellsB b).toArray] w fun e w' => e = .returned (.agg (cellsB (xorS a b)).toArray) ∧ Below w.heap.size w w' := by
  by_cases hab : a = b
  · subst hab; exact xor_same a w ha
  have HA := Lib.hid ha
  have HB := Lib.hid hb
  have HZ := Lib.hid zero16
  have hz : ∀ W, (Op.equalIn 10000 24 (.agg (cellsB a).toArray) (.agg (cellsB b).toArray)).run Tryz.prog W = .ok false W := fun W => by rw [equalIn_keys W a b HA.out HB.out]; simp [hab]
  clear ha hb hab
  go_enter Tryz.func151, Tryz.ntmps151
  go_wp2_with (first
    | (rw [HZ.out]; refine wpList_load_row rfl 24 (.tmp 2) rfl w.heap.size rfl 24 (cellsB a).toArray (0, 0) _ (blk_a0 w _ _ _ _) under_key rfl (cellsB_size _ HA.out) ?_)
    | (refine wpList_load_row rfl 24 (.tmp 3) rfl (w.heap.size + 1) rfl 24 (cellsB b).toArray (0, 0) _ (blk_a1 w _ _ _ _) under_key rfl (cellsB_size _ HB.out) ?_))
  clear hz
  go_loopw [10] (fun vi wr => ∃ i : Nat, i ≤ 16 ∧ vi = .int .i64 (i : Int) ∧ Hid (Blk wr w.heap.size 24 (cellsB (xoP a b i)).toArray) ∧ Hid (Blk wr (w.heap.size + 1) 24 (cellsB b).toArray) ∧ Hid (Blk wr (w.heap.size + 1 + 1) 24 (cellsB zeroK).toArray) ∧ Below w.heap.size w wr) (fun vi _ => 16 - (intOf vi).toNat)
  case atStart => exact ⟨0, by omega, rfl, by rw [xoP_zero b HA.out]; exact blk_a0 _ _ _ _ _, blk_a1 _ _ _ _ _, blk_a2 _ _ _ _ _, alloc3_bel _ _ _ _⟩
  case round =>
    obtain ⟨i, hi, rfl, HB1, HB2, HB3, hbel⟩ := hrel
    by_cases hlt : i < 16
    · have hii : (i : Int) < 16 := by omega
      have c0 := HB1.out.cell i
      rw [bytes_get _ i (by rw [xoP_length]; exact hlt), xoP_at a b hlt] at c0
      have c1 := HB2.out.cell i
      rw [bytes_get _ i (by rw [HB.out]; exact hlt)] at c1
      have f0 := HB1.out.frozen i
      have HSET := Lib.hid (xoP_set (a := a) (b := b) hlt)
      obtain ⟨x, hx⟩ : ∃ x, a.getD i 0 = x := ⟨_, rfl⟩
      obtain ⟨y, hy⟩ : ∃ y, b.getD i 0 = y := ⟨_, rfl⟩
      rw [hx, hy] at HSET
      rw [hx] at c0
      rw [hy] at c1
      have HX : Hid (bits .xor .u8 (x.toNat : Int) (y.toNat : Int) = ((x ^^^ y).toNat : Int)) := xor_u8 _ _
      clear hx hy hlt
      go_wp2_with fail
      go_region
      all_goals
        rw [HX.out]
        go_wp2_with fail
        go_roundw
      all_goals first
        | exact ⟨i + 1, by omega, by go_num, by
            have h := HB1.out.drew.set_ i (.int .u8 ((x ^^^ y).toNat : Int))
            rw [bytes_set, HSET.out] at h
            exact h, HB2.out.drew.far (p := ⟨w.heap.size, i, none⟩) (by simp) _, HB3.out.drew.far (p := ⟨w.heap.size, i, none⟩) (by simp; omega) _, hbel.drew.setCell (p := ⟨w.heap.size, i, none⟩) (by simp) _⟩
        | (simp [intOf]; omega)
    · obtain rfl : i = 16 := by omega
      have B1 : Blk wr w.heap.size 24 (cellsB (xorS a b)).toArray := by rw [← xoP_fin]; exact HB1.out
      have HL : Hid ((xorS a b).length = 16) := xorS_length a b
      obtain ⟨r, hr⟩ : ∃ r, xorS a b = r := ⟨_, rfl⟩
      rw [hr] at B1 HL
      have HRX := Lib.hid hr
      have hl : (cellsB r).length = 16 := by rw [cellsB_length, HL.out]
      have hall := all16 r
      have hr3 : (rowAt wr (w.heap.size + 1 + 1)).size = 16 := by rw [HB3.out.row]; rfl
      have hf3 := HB3.out.free
      have HR1 := Lib.hid B1
      clear hr B1
      go_wp2_with (refine wpList_load_row rfl 24 (.tmp 2) rfl w.heap.size rfl 24 (cellsB r).toArray (0, 0) _ HR1.out under_key rfl (cellsB_size _ HL.out) ?_)
      exact bodyPost_ret (results_cell_row rfl _ _ (w.heap.size + 1 + 1) _ _ (0, 0) _ rfl (HB3.out.setRow (cellsB r).toArray) under_key rfl (cellsB_size _ HL.out)) rfl ⟨by rw [HRX.out], below_setRow hbel (by omega) _⟩

set_option maxHeartbeats 2000000 in
set_option maxRecDepth 100000 in
theorem hashStep_any (s p : List UInt8) (w : World) (hs : s.length = 16) (hp : p.length = 16) : Calls Tryz.prog 150 #[.agg (cellsB s).toArray, .agg (cellsB p).toArray] w fun e w' => e = .returned (.agg (cellsB (xorS (encS p s) s)).toArray) ∧ Below w.heap.size w w' := by
  have HS := Lib.hid hs
  have HP := Lib.hid hp
  have HZ := Lib.hid zero16
  have b0 := alloc3_bel w (.cells (cellsB s).toArray 24) (.cells (cellsB p).toArray 24) (.cells (cellsB zeroK).toArray 24)
  have B0 := Lib.hid (blk_a0 w (cellsB s).toArray 24 (.cells (cellsB p).toArray 24) (.cells (cellsB zeroK).toArray 24))
  have B1 := Lib.hid (blk_a1 w (.cells (cellsB s).toArray 24) (cellsB p).toArray 24 (.cells (cellsB zeroK).toArray 24))
  have B2 := Lib.hid (blk_a2 w (.cells (cellsB s).toArray 24) (.cells (cellsB p).toArray 24) (cellsB zeroK).toArray 24)
  have HEN : Hid (∀ W, Calls Tryz.prog 51 #[.agg (cellsB p).toArray, .agg (cellsB s).toArray] W fun e w' => e = .returned (.agg (cellsB (encS p s)).toArray) ∧ Below W.heap.size W w') := fun W => Encrypt_any p s W hp hs
  have HXO : Hid (∀ W, Calls Tryz.prog 151 #[.agg (cellsB (encS p s)).toArray, .agg (cellsB s).toArray] W fun e w' => e = .returned (.agg (cellsB (xorS (encS p s) s)).toArray) ∧ Below W.heap.size W w') := fun W => xor_any _ _ W rfl hs
  have HRL : Hid ((xorS (encS p s) s).length = 16) := xorS_length _ _
  generalize xorS (encS p s) s = r at HXO HRL
  generalize encS p s = t at HEN HXO
  clear hs hp
  go_enter Tryz.func150, Tryz.ntmps150
  go_wp2_with fail
  rw [HZ.out]
  obtain ⟨W, hW⟩ : ∃ W : World, W = ((w.alloc (.cells (cellsB s).toArray 24)).alloc (.cells (cellsB p).toArray 24)).alloc (.cells (cellsB zeroK).toArray 24) := ⟨_, rfl⟩
  rw [← hW] at b0 B0 B1 B2 ⊢
  clear hW
  refine wp_region_noPanic ?_
  refine wp_region_held_drew (S := fun w' => w'.rangeAt w.heap.size 0 (cellsB s) ∧ w'.rangeAt (w.heap.size + 1) 0 (cellsB p)) (by kernel_rfl) ⟨B0.out.drew.range, B1.out.drew.range⟩ (fun hS => ?_)
  refine hd_load 0 (w.heap.size + 1) 0 (cellsB p) _ _ rfl rfl rfl (by kernel_rfl) (by kernel_rfl) (by kernel_rfl) (fun _ _ _ h => h) rfl (fun w hw => hw.2) under_key rfl (key_info HP.out) hS ?_
  refine hd_load 1 w.heap.size 0 (cellsB s) _ _ rfl rfl rfl (by kernel_rfl) (by kernel_rfl) (by kernel_rfl) (fun _ _ _ h => h) rfl (fun w hw => hw.1) under_key rfl (key_info HS.out) hS ?_
  refine hd_load 3 w.heap.size 0 (cellsB s) _ _ rfl rfl rfl (by kernel_rfl) (by kernel_rfl) (by kernel_rfl) (fun _ _ _ h => h) rfl (fun w hw => hw.1) under_key rfl (key_info HS.out) hS ?_
  refine hd_calls 2 51 #[.agg (cellsB p).toArray, .agg (cellsB s).toArray] rfl rfl (by kernel_rfl) (by go_simp) ((HEN.out _).mono ?_)
  rintro e w5 ⟨rfl, hb5⟩
  have hS5 := And.intro (range_below hS.1 hb5) (range_below hS.2 hb5)
  refine ⟨_, rfl, hS5, ?_⟩
  refine hd_calls 4 151 #[.agg (cellsB t).toArray, .agg (cellsB s).toArray] rfl rfl (by kernel_rfl) (by go_simp) ((HXO.out _).mono ?_)
  rintro e w6 ⟨rfl, hb6⟩
  have hS6 := And.intro (range_below hS5.1 hb6) (range_below hS5.2 hb6)
  refine ⟨_, rfl, hS6, ?_⟩
  simp only [List.getElem_toArray, List.getElem_cons_succ, List.getElem_cons_zero, Act.put, List.setIfInBounds_toArray, List.set_cons_zero, List.set_cons_succ]
  have r6 := (B2.out.drew.below' hb5).below' hb6
  have b6 : Below w.heap.size w w6 := bel_on (bel_on (b0.drew) hb5) hb6
  refine hd_store 5 (w.heap.size + 1 + 1) (cellsB r).toArray _ _ _ rfl rfl rfl (by kernel_rfl) rfl rfl r6 (cellsB_size _ HRL.out) (by rw [List.size_toArray, List.size_toArray, cellsB_length, cellsB_length, HRL.out]; rfl) (all_oneCell_toArray (cells_one r)) ⟨range_setRow hS6.1 (by omega) _, range_setRow hS6.2 (by omega) _⟩ ?_
  refine wpAnyH_done (by kernel_rfl) (NoPanic.normal ?_) _
  simp only [List.getElem_toArray, List.getElem_cons_succ, List.getElem_cons_zero, Act.put, List.setIfInBounds_toArray, List.set_cons_zero, List.set_cons_succ]
  go_wp2_with fail
  exact bodyPost_ret (results_cell_row rfl _ _ (w.heap.size + 1 + 1) _ _ (0, 0) _ rfl (r6.setRow (cellsB r).toArray) under_key rfl (cellsB_size _ HRL.out)) rfl ⟨rfl, below_setRow b6 (by omega) _⟩
end Go.Proofs.YtinpiodfpnbllaaGreatDoor

/- The reference's portions. -/
namespace Go.Proofs.YtinpiodfpnbllaaGreatDoor
open Go.RowKit
set_option linter.unusedVariables false
attribute [local go_sem] run_storeCells_key

/-- Where a cut 's[n:]' of bytes leads. -/
def dropP (A : Option Addr) (n c : Nat) : Option Addr := if c = n then A else A.map fun x => x.add n
theorem slice_bytes_from (W : World) (A : Option Addr) (m c n : Nat) (h : n ≤ m) :
    (Instr.slice 22 (.slice A m c) (some (.int .i64 (n : Int))) none none).run Tryz.prog W = .ok (.slice (dropP A n c) (m - n) (c - n)) W := by
  have e : Tryz.prog.elem 22 = 5 := by kernel_rfl
  rw [run_slice_l (P := Tryz.prog) (w := W) 22 A m c (by rw [e]; exact Tryz.underlying22) .i64 n (by omega) (by omega), e, Tryz.sizeOf5 W]
  simp [Result.andThen, sliced, dropP]
theorem BR.drop {w : World} {A : Option Addr} {c : Nat} {l : List UInt8} (h : BR w A c l) (n : Nat) (hn : n ≤ l.length) : BR w (dropP A n c) (c - n) (l.drop n) := by
  have h1 := Rd.le h
  have h2 := Rd.cap h
  have h3 := Rd.len h
  refine ⟨⟨by rw [cellsB_length, Nat.mul_one], by rw [List.length_drop]; omega, by omega, by rw [List.length_drop]; omega⟩, fun hne => ?_⟩
  rw [List.length_drop] at hne
  obtain ⟨b, off, e, hb, hc⟩ := h.2 (by omega)
  refine ⟨b, off + n, by rw [dropP, if_neg (by omega), e]; simp [Addr.add], hb, fun j v hv => ?_⟩
  rw [Nat.add_assoc]
  refine hc (n + j) v ?_
  rw [← hv]
  simp [cellsB, List.getElem?_drop]

theorem portions_any (A : Option Addr) (c L : Nat) (w : World) (hL : (L : Int) ≤ 140737488351232) : Calls Tryz.prog 124 #[.slice A L c] w fun e w' => e = .returned (.int .i64 (((L + 15) / 16 : Nat) : Int)) ∧ w = w' := by
  go_enter Tryz.func124, Tryz.ntmps124
  go_wp2_with fail
  go_ret
  exact ⟨by simp, rfl⟩

set_option maxHeartbeats 1000000 in
set_option maxRecDepth 100000 in
theorem portion_any (A : Option Addr) (c : Nat) (b : List UInt8) (i : Nat) (w : World) {L : Nat} (hL : b.length = L) (h : BR w A c b) (hi : 16 * i ≤ L) :
    Calls Tryz.prog 127 #[.slice A L c, .int .i64 (i : Int)] w fun e w' => e = .returned (.agg (cellsB (padK (b.drop (16 * i)))).toArray) ∧ Below w.heap.size w w' := by
  have hl0 : (L : Int) ≤ 140737488351232 := by have := h.len; omega
  have HZ := Lib.hid zero16
  have hi0 : (i : Int) * 16 ≤ 140737488351232 := by omega
  have hi1 : 16 * (i : Int) ≤ 140737488351232 := by omega
  have hi2 : (i : Int) ≤ 140737488351232 := by omega
  have hsl : ∀ W, (Instr.slice 22 (.slice A L c) (some (.int .i64 (16 * (i : Int)))) none none).run Tryz.prog W = .ok (.slice (dropP A (16 * i) c) (L - 16 * i) (c - 16 * i)) W := fun W => by
    have := slice_bytes_from W A L c (16 * i) hi
    rw [Int.natCast_mul] at this
    exact this
  have H := Lib.hid (h.drop (16 * i) (by omega))
  have HN : Hid ((b.drop (16 * i)).length = L - 16 * i) := by unfold Hid; rw [List.length_drop, hL]
  have hl : (cellsB (padK (b.drop (16 * i)))).length = 16 := by rw [cellsB_length]; rfl
  have hall := all16 (padK (b.drop (16 * i)))
  obtain ⟨d, hd⟩ : ∃ d, b.drop (16 * i) = d := ⟨_, rfl⟩
  rw [hd] at H HN hl hall ⊢
  clear h hL hi hd
  go_enter Tryz.func127, Tryz.ntmps127
  go_wp2_with (go_at_call 165; refine (refKey_any _ _ d _ HN.out (H.out.below (alloc_bel _ _))).mono ?_; rintro e w1 ⟨rfl, hb1⟩; rw [HZ.out] at hb1; have hB1 := (Blk.new w 24 (cellsB zeroK).toArray).below' hb1; have hr1 : (rowAt w1 w.heap.size).size = 16 := by { rw [hB1.row]; rfl }; have hf1 := hB1.free; have HB1 := Lib.hid hB1; clear hB1)
  exact bodyPost_ret (results_cell_row rfl _ _ w.heap.size _ _ (0, 0) _ rfl (HB1.out.setRow (cellsB (padK d)).toArray) under_key rfl (cellsB_size _ (by simpa [cellsB] using hl))) rfl ⟨rfl, below_setRow ((alloc_bel w _).trans (hb1.mono (alloc_bel w (.cells (cellsB zeroK).toArray 24)).size)) (Nat.le_refl _) _⟩
end Go.Proofs.YtinpiodfpnbllaaGreatDoor

/- Where a list of leaves is parted, in plain words. -/
namespace Go.Proofs.YtinpiodfpnbllaaGreatDoor
set_option linter.unusedVariables false

/-- The greatest power of 2 below n, for n from 2 on. -/
def splitS (n : Nat) : Nat := 2 ^ Nat.log2 (n - 1)
theorem splitS_pos (n : Nat) : 1 ≤ splitS n := Nat.two_pow_pos _
theorem splitS_lt {n : Nat} (h : 2 ≤ n) : splitS n < n := by
  have := Nat.log2_self_le (n := n - 1) (by omega)
  unfold splitS
  omega
theorem splitS_ge {n : Nat} (h : 2 ≤ n) : n ≤ 2 * splitS n := by
  have := Nat.lt_log2_self (n := n - 1)
  unfold splitS
  rw [Nat.pow_succ] at this
  omega
theorem splitS_of {n e : Nat} (h1 : 2 ^ e < n) (h2 : n ≤ 2 * 2 ^ e) : splitS n = 2 ^ e := by
  have a1 := splitS_lt (n := n) (by have := Nat.two_pow_pos e; omega)
  have a2 := splitS_ge (n := n) (by have := Nat.two_pow_pos e; omega)
  unfold splitS at *
  generalize Nat.log2 (n - 1) = f at *
  rcases Nat.lt_trichotomy e f with h | h | h
  · have := Nat.pow_le_pow_right (show 1 ≤ 2 by omega) (show e + 1 ≤ f from h)
    rw [Nat.pow_succ] at this
    omega
  · rw [h]
  · have := Nat.pow_le_pow_right (show 1 ≤ 2 by omega) (show f + 1 ≤ e from h)
    rw [Nat.pow_succ] at this
    omega
end Go.Proofs.YtinpiodfpnbllaaGreatDoor

/- What follows a text before it is digested, in plain words. -/
namespace Go.Proofs.YtinpiodfpnbllaaGreatDoor
set_option linter.unusedVariables false

/-- What follows n bytes before they are digested: the zeros between. -/
def padZ (n : Nat) : Nat := (23 - n % 16) % 16
def padB (b : List UInt8) : List UInt8 := b ++ (128 :: (List.replicate (padZ b.length) 0 ++ by8 (UInt64.ofNat b.length)))
theorem padB_length (b : List UInt8) : (padB b).length = b.length + 9 + padZ b.length := by simp [padB, by8_length]; omega
def padTail (n : Nat) : List UInt8 := 128 :: (List.replicate (padZ n) 0 ++ by8 (UInt64.ofNat n))
theorem padTail_length (n : Nat) : (padTail n).length = 9 + padZ n := by simp [padTail, by8_length]; omega
theorem padB_tail (b : List UInt8) {n : Nat} (h : b.length = n) : padB b = b ++ padTail n := by rw [padB, padTail, h]
def padJ (j : Nat) : List UInt8 := 128 :: List.replicate j 0
theorem padJ_length (j : Nat) : (padJ j).length = j + 1 := by simp [padJ]
theorem padJ_succ (j : Nat) : padJ (j + 1) = padJ j ++ [0] := by simp [padJ, List.replicate_succ']
end Go.Proofs.YtinpiodfpnbllaaGreatDoor

/- Digests and trees in plain words. -/
namespace Go.Proofs.YtinpiodfpnbllaaGreatDoor
set_option linter.unusedVariables false

def salt : List UInt8 := List.replicate 16 90
def dgStep (all s : List UInt8) (i : Nat) : List UInt8 := xorS (encS (padK (all.drop (16 * i))) s) s
def dgN (all : List UInt8) (i : Nat) : List UInt8 := (List.range i).foldl (dgStep all) salt
/-- The digest of some bytes. -/
def digS (b : List UInt8) : List UInt8 := dgN (padB b) ((padB b).length / 16)
theorem dgN_zero (all : List UInt8) : dgN all 0 = salt := rfl
theorem dgN_succ (all : List UInt8) (i : Nat) : dgN all (i + 1) = dgStep all (dgN all i) i := by simp [dgN, List.range_succ]
theorem dgStep_length (all s : List UInt8) (i : Nat) : (dgStep all s i).length = 16 := xorS_length _ _
theorem dgN_length (all : List UInt8) (i : Nat) : (dgN all i).length = 16 := by
  cases i with
  | zero => rfl
  | succ i => rw [dgN_succ]; exact dgStep_length _ _ _
theorem digS_length (b : List UInt8) : (digS b).length = 16 := dgN_length _ _
theorem padB_mod (b : List UInt8) : (padB b).length % 16 = 0 := by rw [padB_length, padZ]; omega
theorem padB_parts (b : List UInt8) : 16 * ((padB b).length / 16) = (padB b).length := by have := padB_mod b; omega

def leafT (k : List UInt8) : List UInt8 := 0 :: k
def nodeT (a b : List UInt8) : List UInt8 := 1 :: (a ++ b)
def rootS (l : List (List UInt8)) : List UInt8 :=
  if h0 : l.length = 0 then digS []
  else if h1 : l.length = 1 then digS (leafT (l.headD []))
  else
    have := splitS_lt (n := l.length) (by omega)
    have := splitS_pos l.length
    digS (nodeT (rootS (l.take (splitS l.length))) (rootS (l.drop (splitS l.length))))
termination_by l.length
decreasing_by all_goals (simp only [List.length_take, List.length_drop]; omega)

def textsS (l : List (List UInt8)) : List (List UInt8) :=
  if h0 : l.length = 0 then [[]]
  else if h1 : l.length = 1 then [leafT (l.headD [])]
  else
    have := splitS_lt (n := l.length) (by omega)
    have := splitS_pos l.length
    textsS (l.take (splitS l.length)) ++ (textsS (l.drop (splitS l.length)) ++ [nodeT (rootS (l.take (splitS l.length))) (rootS (l.drop (splitS l.length)))])
termination_by l.length
decreasing_by all_goals (simp only [List.length_take, List.length_drop]; omega)

def pathS (l : List (List UInt8)) (i : Nat) : List (List UInt8) :=
  if h1 : l.length ≤ 1 then []
  else
    have := splitS_lt (n := l.length) (by omega)
    have := splitS_pos l.length
    if i < splitS l.length then pathS (l.take (splitS l.length)) i ++ [rootS (l.drop (splitS l.length))]
    else pathS (l.drop (splitS l.length)) (i - splitS l.length) ++ [rootS (l.take (splitS l.length))]
termination_by l.length
decreasing_by all_goals (simp only [List.length_take, List.length_drop]; omega)

def partS (l : List (List UInt8)) (m : Nat) (whole : Bool) : List (List UInt8) :=
  if h1 : l.length ≤ 1 ∨ m = l.length then (if whole then [] else [rootS l])
  else
    have := splitS_lt (n := l.length) (by omega)
    have := splitS_pos l.length
    if m ≤ splitS l.length then partS (l.take (splitS l.length)) m whole ++ [rootS (l.drop (splitS l.length))]
    else partS (l.drop (splitS l.length)) (m - splitS l.length) false ++ [rootS (l.take (splitS l.length))]
termination_by l.length
decreasing_by all_goals (simp only [List.length_take, List.length_drop]; omega)

theorem rootS_length (l : List (List UInt8)) : (rootS l).length = 16 := by
  rw [rootS]
  split
  · exact digS_length _
  · split <;> exact digS_length _
theorem rootS_nil : rootS [] = digS [] := by rw [rootS]; rfl
theorem rootS_one (k : List UInt8) : rootS [k] = digS (leafT k) := by rw [rootS]; rfl
theorem rootS_node {l : List (List UInt8)} (h : 2 ≤ l.length) : rootS l = digS (nodeT (rootS (l.take (splitS l.length))) (rootS (l.drop (splitS l.length)))) := by
  rw [rootS, dif_neg (by omega), dif_neg (by omega)]
theorem textsS_nil : textsS [] = [[]] := by rw [textsS]; rfl
theorem textsS_one (k : List UInt8) : textsS [k] = [leafT k] := by rw [textsS]; rfl
theorem textsS_node {l : List (List UInt8)} (h : 2 ≤ l.length) : textsS l = textsS (l.take (splitS l.length)) ++ (textsS (l.drop (splitS l.length)) ++ [nodeT (rootS (l.take (splitS l.length))) (rootS (l.drop (splitS l.length)))]) := by
  rw [textsS, dif_neg (by omega), dif_neg (by omega)]
theorem pathS_one {l : List (List UInt8)} (h : l.length ≤ 1) (i : Nat) : pathS l i = [] := by rw [pathS, dif_pos h]
theorem pathS_low {l : List (List UInt8)} {i : Nat} (h : 2 ≤ l.length) (hi : i < splitS l.length) : pathS l i = pathS (l.take (splitS l.length)) i ++ [rootS (l.drop (splitS l.length))] := by
  rw [pathS, dif_neg (by omega)]
  exact if_pos hi
theorem pathS_high {l : List (List UInt8)} {i : Nat} (h : 2 ≤ l.length) (hi : ¬ i < splitS l.length) : pathS l i = pathS (l.drop (splitS l.length)) (i - splitS l.length) ++ [rootS (l.take (splitS l.length))] := by
  rw [pathS, dif_neg (by omega)]
  exact if_neg hi
theorem partS_end {l : List (List UInt8)} (whole : Bool) : partS l l.length whole = if whole then [] else [rootS l] := by rw [partS, dif_pos (.inr rfl)]
theorem partS_low {l : List (List UInt8)} {m : Nat} (whole : Bool) (h : 2 ≤ l.length) (hm : m ≠ l.length) (hi : m ≤ splitS l.length) : partS l m whole = partS (l.take (splitS l.length)) m whole ++ [rootS (l.drop (splitS l.length))] := by
  rw [partS, dif_neg (by omega)]
  exact if_pos hi
theorem partS_high {l : List (List UInt8)} {m : Nat} (whole : Bool) (h : 2 ≤ l.length) (hm : m ≠ l.length) (hi : ¬ m ≤ splitS l.length) : partS l m whole = partS (l.drop (splitS l.length)) (m - splitS l.length) false ++ [rootS (l.take (splitS l.length))] := by
  rw [partS, dif_neg (by omega)]
  exact if_neg hi
end Go.Proofs.YtinpiodfpnbllaaGreatDoor

/- The program's fold over portions. -/
namespace Go.Proofs.YtinpiodfpnbllaaGreatDoor
open Go.RowKit
set_option linter.unusedVariables false
attribute [local go_sem] run_storeCells_key

/-- The state after i portions, from s on. -/
def dgFold (all s : List UInt8) (i : Nat) : List UInt8 := (List.range i).foldl (dgStep all) s
theorem dgFold_zero (all s : List UInt8) : dgFold all s 0 = s := rfl
theorem dgFold_succ (all s : List UInt8) (i : Nat) : dgFold all s (i + 1) = dgStep all (dgFold all s i) i := by simp [dgFold, List.range_succ]
theorem dgFold_length {all s : List UInt8} (h : s.length = 16) (i : Nat) : (dgFold all s i).length = 16 := by
  cases i with
  | zero => exact h
  | succ i => rw [dgFold_succ]; exact dgStep_length _ _ _
theorem dgFold_dgN (all : List UInt8) (i : Nat) : dgFold all salt i = dgN all i := rfl
theorem padK_take {d : List UInt8} (h : 16 ≤ d.length) : padK d = d.take 16 := by
  refine List.ext_getElem (by simp [padK]; omega) fun i h1 h2 => ?_
  have : i < 16 := by simpa [padK] using h1
  simp [padK, List.getD, List.getElem?_eq_getElem (show i < d.length by omega)]
def lenV : Value → Nat
  | .slice _ n _ => n
  | _ => 0
theorem splice_all (p : List UInt8) (hp : p.length = 16) : splice (cellsB zeroK) 0 (cellsB p) = cellsB p := by
  have h1 : (cellsB p).length = 16 := by rw [cellsB_length, hp]
  have h2 : (cellsB zeroK).drop 16 = [] := rfl
  simp [splice, h1, h2]
theorem copy_src {w : World} {A : Option Addr} {c : Nat} {d : List UInt8} (h : BR w A c d) (n : Nat) : 0 < (cellsB (d.take n)).length → ∃ ad, A = some ad ∧ ∀ j v, (cellsB (d.take n))[j]? = some v → w.cell? (ad.add j) = some v := by
  intro hpos
  have hne : d.length ≠ 0 := by
    intro h0
    rw [List.eq_nil_of_length_eq_zero h0] at hpos
    simp [cellsB] at hpos
  obtain ⟨b, off, e, _, hc⟩ := h.2 hne
  refine ⟨_, e, fun j v hv => ?_⟩
  rw [Addr.add_lit]
  refine hc j v ?_
  have hj : j < (cellsB (d.take n)).length := by
    rcases Nat.lt_or_ge j (cellsB (d.take n)).length with h' | h'
    · exact h'
    · rw [List.getElem?_eq_none h'] at hv; cases hv
  rw [← hv]
  simp only [cellsB, List.getElem?_map, List.getElem?_take]
  rw [cellsB_length, List.length_take] at hj
  rw [if_pos (by omega)]

set_option maxHeartbeats 2000000 in
set_option maxRecDepth 100000 in
theorem fold_any (all s : List UInt8) (A : Option Addr) (c : Nat) (w : World) {L : Nat} (hL : all.length = L) (h16 : L % 16 = 0) (h : BR w A c all) (hs : s.length = 16) :
    Calls Tryz.prog 149 #[.agg (cellsB s).toArray, .slice A L c, .func (.func 150) #[] #[]] w fun e w' => e = .returned (.agg (cellsB (dgFold all s (L / 16))).toArray) ∧ Below w.heap.size w w' := by
  have hl0 : (L : Int) ≤ 140737488351232 := by have := h.len; omega
  have HL := Lib.hid hL
  have H := Lib.hid h
  have HS := Lib.hid hs
  have HZ := Lib.hid zero16
  have b0 := alloc2_bel w (.cells (cellsB s).toArray 24) (.cells (cellsB zeroK).toArray 24)
  have B0 := Lib.hid (blk_b0 w (cellsB s).toArray 24 (.cells (cellsB zeroK).toArray 24))
  have B1 := Lib.hid (blk_b1 w (.cells (cellsB s).toArray 24) (cellsB zeroK).toArray 24)
  clear hL h hs
  go_enter Tryz.func149, Tryz.ntmps149
  go_wp2_with fail
  rw [HZ.out]
  go_loopw [1] (fun vb wr => ∃ (i m : Nat) (A' : Option Addr) (c' : Nat), 16 * i + m = L ∧ vb = .slice A' m c' ∧ Hid (BR w A' c' (all.drop (16 * i))) ∧ Hid (Blk wr w.heap.size 24 (cellsB (dgFold all s i)).toArray) ∧ Hid (Blk wr (w.heap.size + 1) 24 (cellsB zeroK).toArray) ∧ Below w.heap.size w wr) (fun vb _ => lenV vb)
  case atStart => exact ⟨0, L, A, c, by omega, rfl, H.out, B0.out, B1.out, b0⟩
  case round =>
    obtain ⟨i, m, A', c', him, rfl, HR, HB0, HB1, hbel⟩ := hrel
    by_cases hm : 0 < m
    · have hmi : (0 : Int) < m := by omega
      have hm16 : 16 ≤ m := by omega
      have hml : (m : Int) ≤ 140737488351232 := by omega
      have hdl : (all.drop (16 * i)).length = m := by rw [List.length_drop, HL.out]; omega
      have hp16 : ((all.drop (16 * i)).take 16).length = 16 := by rw [List.length_take]; omega
      have HSUC : Hid (dgFold all s (i + 1) = xorS (encS ((all.drop (16 * i)).take 16) (dgFold all s i)) (dgFold all s i)) := by unfold Hid; rw [dgFold_succ, dgStep, padK_take (by omega)]
      have HDR := Lib.hid (HR.out.drop 16 (by omega))
      rw [List.drop_drop, show 16 * i + 16 = 16 * (i + 1) from by omega] at HDR
      have HSRC := Lib.hid (copy_src ((HR.out.below hbel).below (alloc_bel wr (.cells (cellsB zeroK).toArray 24))) 16)
      have HFL : Hid ((dgFold all s i).length = 16) := dgFold_length HS.out i
      have HDL := Lib.hid hdl
      generalize (all.drop (16 * i)).take 16 = p at hp16 HSUC HSRC
      generalize dgFold all s i = f at HSUC HB0 HFL
      have HPL := Lib.hid hp16
      have HST : Hid (∀ W, Calls Tryz.prog 150 #[.agg (cellsB f).toArray, .agg (cellsB p).toArray] W fun e w' => e = .returned (.agg (cellsB (xorS (encS p f) f)).toArray) ∧ Below W.heap.size W w') := fun W => hashStep_any f p W HFL.out hp16
      have HRL : Hid ((xorS (encS p f) f).length = 16) := xorS_length _ _
      generalize xorS (encS p f) f = r at HSUC HST HRL
      have hrl : (cellsB r).length = 16 := by rw [cellsB_length, HRL.out]
      have hra := all16 r
      have hsl : ∀ W, (Instr.slice 22 (.slice A' m c') (some (.int .i64 16)) none none).run Tryz.prog W = .ok (.slice (dropP A' 16 c') (m - 16) (c' - 16)) W := fun W => slice_bytes_from W A' m c' 16 hm16
      clear hp16 hdl
      go_wp2_with (first
        | (rw [HZ.out]; refine wpList_copy_splice rfl (.tmp 12) (.tmp 13) 22 22 rfl 5 Tryz.underlying22 (by kernel_rfl) (some ⟨wr.heap.size, 0, none⟩) A' 16 16 m c' rfl rfl wr.heap.size 0 (cellsB zeroK) 24 (Blk.new wr _ _) (cellsB p) (by rw [cellsB_length, HPL.out]; simp [Nat.min_def]; omega) (fun h => ⟨rfl, HSRC.out h⟩) (by rw [cellsB_length, HPL.out]; exact Nat.le_refl _) (cells_one p) wr.heap.size wr (alloc_bel _ _) (Nat.le_refl _) ?_; intro w4 hg4 hb4; rw [splice_all p HPL.out] at hg4; have G4 := hg4; rw [show (goInt (cellsB p).length) = .int .i64 16 from by rw [cellsB_length, HPL.out]; rfl])
        | (refine wpList_load_row rfl 24 (.tmp 3) rfl w.heap.size rfl 24 (cellsB f).toArray (0, 0) _ (HB0.out.below' hb4) under_key rfl (cellsB_size _ HFL.out) ?_)
        | (refine wpList_load_row rfl 24 (.tmp 7) rfl wr.heap.size rfl 24 (cellsB p).toArray (0, 0) _ G4.out under_key rfl (cellsB_size _ HPL.out) ?_)
        | (go_at_call 150; refine (HST.out _).mono ?_; rintro e w5 ⟨rfl, hb5⟩; have Q0 := (HB0.out.below' hb4).below' hb5; have Q1 := Lib.hid ((HB1.out.below' hb4).below' hb5); have hr5 : (rowAt w5 w.heap.size).size = 16 := (by rw [Q0.row]; rw [List.size_toArray, cellsB_length, HFL.out]); have hf5 := Q0.free; have HQ0 := Lib.hid Q0; have b5 := bel_on (w0 := wr) hb4 hb5; clear Q0))
      have hbF := below_setRow (bel_on hbel b5) (g := w.heap.size) (Nat.le_refl _) (cellsB r).toArray
      exact ⟨⟨i + 1, m - 16, dropP A' 16 c', c' - 16, by omega, rfl, HDR.out, by rw [HSUC.out]; exact HQ0.out.setRow _, (setRow_other _ _ _ _ (by omega)).trans Q1.out, hbF⟩, by simp only [lenV]; omega⟩
    · obtain rfl : m = 0 := by omega
      have HI : Hid (L / 16 = i) := by unfold Hid; omega
      have HFL : Hid ((dgFold all s i).length = 16) := dgFold_length HS.out i
      obtain ⟨f, hf⟩ : ∃ f, dgFold all s i = f := ⟨_, rfl⟩
      rw [hf] at HB0 HFL
      have HF := Lib.hid hf
      have hfl : (cellsB f).length = 16 := by rw [cellsB_length, HFL.out]
      have hall := all16 f
      have hr3 : (rowAt wr (w.heap.size + 1)).size = 16 := by rw [HB1.out.row]; rfl
      have hf3 := HB1.out.free
      clear hf
      go_wp2_with (refine wpList_load_row rfl 24 (.tmp 3) rfl w.heap.size rfl 24 (cellsB f).toArray (0, 0) _ HB0.out under_key rfl (cellsB_size _ HFL.out) ?_)
      exact bodyPost_ret (results_cell_row rfl _ _ (w.heap.size + 1) _ _ (0, 0) _ rfl (HB1.out.setRow (cellsB f).toArray) under_key rfl (cellsB_size _ HFL.out)) rfl ⟨by rw [HI.out, HF.out], below_setRow hbel (by omega) _⟩
end Go.Proofs.YtinpiodfpnbllaaGreatDoor

/- The padded text as the program makes it, in plain words. -/
namespace Go.Proofs.YtinpiodfpnbllaaGreatDoor
set_option linter.unusedVariables false

theorem by8_small {n : Nat} (h : n < 65536) : by8 (UInt64.ofNat n) = [0, 0, 0, 0, 0, 0, UInt8.ofNat (n / 256), UInt8.ofNat n] := by
  have hn : (UInt64.ofNat n).toNat = n := by rw [UInt64.toNat_ofNat', Nat.mod_eq_of_lt (by omega)]
  have g : ∀ k : Nat, k < 64 → ((UInt64.ofNat n) >>> (UInt64.ofNat k)).toUInt8 = UInt8.ofNat (n / 2 ^ k) := fun k hk => by
    apply UInt8.toNat_inj.1
    rw [UInt64.toNat_toUInt8, toNat_shr _ _ hk, hn]
    simp
  have z : ∀ k : Nat, 16 ≤ k → UInt8.ofNat (n / 2 ^ k) = 0 := fun k hk => by
    have : n / 2 ^ k = 0 := Nat.div_eq_of_lt (Nat.lt_of_lt_of_le h (show 2 ^ 16 ≤ 2 ^ k from Nat.pow_le_pow_right (by decide) hk))
    rw [this]; rfl
  have g0 : (UInt64.ofNat n).toUInt8 = UInt8.ofNat n := by
    apply UInt8.toNat_inj.1
    rw [UInt64.toNat_toUInt8, hn]
    simp
  unfold by8
  rw [show (56 : UInt64) = UInt64.ofNat 56 from rfl, show (48 : UInt64) = UInt64.ofNat 48 from rfl, show (40 : UInt64) = UInt64.ofNat 40 from rfl, show (32 : UInt64) = UInt64.ofNat 32 from rfl, show (24 : UInt64) = UInt64.ofNat 24 from rfl, show (16 : UInt64) = UInt64.ofNat 16 from rfl, show (8 : UInt64) = UInt64.ofNat 8 from rfl]
  rw [g 56 (by omega), g 48 (by omega), g 40 (by omega), g 32 (by omega), g 24 (by omega), g 16 (by omega), g 8 (by omega), g0, z 56 (by omega), z 48 (by omega), z 40 (by omega), z 32 (by omega), z 24 (by omega), z 16 (by omega)]

/-- The text as it is filled in. -/
theorem padB_sets (b : List UInt8) {n L : Nat} (hL : b.length = L) (h : L < 65536) (hn : n = L + 9 + padZ L) :
    (((b ++ List.replicate (n - L) 0).set L 128).set (n - 2) (UInt8.ofNat (L / 256))).set (n - 1) (UInt8.ofNat L) = padB b := by
  have hz : padZ L ≤ 15 := by unfold padZ; omega
  refine List.ext_getElem? fun i => ?_
  rw [padB, hL, by8_small h]
  simp only [List.getElem?_set, List.getElem?_append, List.getElem?_replicate, List.getElem?_cons, List.length_set, List.length_append, List.length_replicate, hL]
  by_cases h1 : n - 1 = i
  · subst h1
    rw [if_pos rfl, if_pos (by omega), if_neg (by omega), if_neg (by omega), if_neg (by omega), show n - 1 - L - 1 - padZ L = 7 from by omega]
    rfl
  · rw [if_neg h1]
    by_cases h2 : n - 2 = i
    · subst h2
      rw [if_pos rfl, if_pos (by omega), if_neg (by omega), if_neg (by omega), if_neg (by omega), show n - 2 - L - 1 - padZ L = 6 from by omega]
      rfl
    · rw [if_neg h2]
      by_cases h3 : L = i
      · subst h3
        rw [if_pos rfl, if_pos (by omega), if_neg (by omega), if_pos (by omega)]
      · rw [if_neg h3]
        by_cases h4 : i < L
        · rw [if_pos h4, if_pos h4]
        · rw [if_neg h4, if_neg h4, if_neg (show ¬ i - L = 0 by omega)]
          by_cases h5 : i < n
          · rw [if_pos (show i - L < n - L by omega)]
            by_cases h6 : i - L - 1 < padZ L
            · rw [if_pos h6, if_pos h6]
            · rw [if_neg h6]
              obtain ⟨j, hj⟩ : ∃ j, i - L - 1 - padZ L = j := ⟨_, rfl⟩
              rw [hj]
              have : j < 6 := by omega
              match j, this with
              | 0, _ => rfl
              | 1, _ => rfl
              | 2, _ => rfl
              | 3, _ => rfl
              | 4, _ => rfl
              | 5, _ => rfl
          · rw [if_neg (show ¬ i - L < n - L by omega), if_neg (show ¬ i - L - 1 < padZ L by omega)]
            obtain ⟨j, hj⟩ : ∃ j, i - L - 1 - padZ L = j + 8 := ⟨i - L - 1 - padZ L - 8, by omega⟩
            rw [hj]
            rfl
end Go.Proofs.YtinpiodfpnbllaaGreatDoor

/- The first state of a digest, in plain words. -/
namespace Go.Proofs.YtinpiodfpnbllaaGreatDoor
set_option linter.unusedVariables false

def saltJ (i : Nat) : List UInt8 := List.replicate i 90 ++ List.replicate (16 - i) 0
theorem saltJ_length {i : Nat} (h : i ≤ 16) : (saltJ i).length = 16 := by simp [saltJ]; omega
theorem saltJ_set {i : Nat} (h : i < 16) : (saltJ i).set i 90 = saltJ (i + 1) := by
  refine List.ext_getElem? fun j => ?_
  simp only [saltJ, List.getElem?_set, List.getElem?_append, List.getElem?_replicate, List.length_replicate, List.length_append]
  by_cases h1 : i = j
  · subst h1
    rw [if_pos rfl, if_pos (by omega), if_pos (by omega), if_pos (by omega)]
  · rw [if_neg h1]
    by_cases h2 : j < i
    · rw [if_pos h2, if_pos h2, if_pos (by omega), if_pos (by omega)]
    · rw [if_neg h2, if_neg (show ¬ j < i + 1 by omega)]
      by_cases h3 : j < 16
      · rw [if_pos (by omega), if_pos (by omega)]
      · rw [if_neg (by omega), if_neg (by omega)]
end Go.Proofs.YtinpiodfpnbllaaGreatDoor

/- The program's Hash, for texts that are not too long. -/
namespace Go.Proofs.YtinpiodfpnbllaaGreatDoor
open Go.RowKit
set_option linter.unusedVariables false
attribute [local go_sem] run_storeCells_key

theorem splice_head (b : List UInt8) {n L : Nat} (hL : b.length = L) (h : L ≤ n) : splice (cellsB (List.replicate n 0)) 0 (cellsB b) = cellsB (b ++ List.replicate (n - L) 0) := by
  simp [splice, cellsB, hL]
theorem copy_src_all {w : World} {A : Option Addr} {c : Nat} {d : List UInt8} (h : BR w A c d) : 0 < (cellsB d).length → ∃ ad, A = some ad ∧ ∀ j v, (cellsB d)[j]? = some v → w.cell? (ad.add j) = some v := by
  have := copy_src h d.length
  rwa [List.take_length] at this

set_option maxHeartbeats 2000000 in
set_option maxRecDepth 100000 in
theorem Hash_any (b : List UInt8) (A : Option Addr) (c : Nat) (w : World) {L : Nat} (hL : b.length = L) (h : BR w A c b) (hl : L ≤ 16384) :
    Calls Tryz.prog 92 #[.slice A L c] w fun e w' => e = .returned (.tuple #[.agg (cellsB (digS b)).toArray, .int .i64 0]) ∧ Below w.heap.size w w' := by
  have hl1 : (L : Int) ≤ 16384 := by omega
  have HL := Lib.hid hL
  have H := Lib.hid h
  have HZ := Lib.hid zero16
  obtain ⟨n, hn⟩ : ∃ n, n = L + 9 + padZ L := ⟨_, rfl⟩
  have hn16 : n % 16 = 0 := by rw [hn]; unfold padZ; omega
  have hnb : n ≤ 20000 := by rw [hn]; unfold padZ; omega
  have hnL : L + 9 ≤ n := by omega
  have HSETS := Lib.hid (padB_sets b hL (by omega) hn)
  have HPL : Hid ((padB b).length = n) := by unfold Hid; rw [padB_length, hL, hn]
  have HDG : Hid (digS b = dgFold (padB b) salt (n / 16)) := by unfold Hid digS; rw [HPL.out, dgFold_dgN]
  have hmk := run_make_row' (P := Tryz.prog) 22 5 (.int .u8 0) 1 Tryz.underlying22 (by kernel_rfl) rfl .i64 .i64 n (by omega) (by omega)
  have HMB := Lib.hid (made_bytes n)
  have hnI : (n : Int) = (L : Int) / 16 * 16 + 16 + (if (7 : Int) < (L : Int) % 16 then 16 else 0) := by
    rw [hn]; unfold padZ
    split <;> omega
  have HSRC := Lib.hid (fun W (hW : Below w.heap.size w W) => copy_src_all (h.below hW))
  by_cases hr : (7 : Int) < (L : Int) % 16
  · rw [if_pos hr] at hnI
    have HNI := Lib.hid hnI
    clear hL h hl hn hnI
    go_enter Tryz.func92, Tryz.ntmps92
    go_wp2_with (first
      | (rw [← HNI.out])
      | (rw [HMB.out, HZ.out]; refine wpList_copy_splice rfl (.tmp 25) (.tmp 26) 22 22 rfl 5 Tryz.underlying22 (by kernel_rfl) (some ⟨w.heap.size + 1, 0, none⟩) A n n L c rfl rfl (w.heap.size + 1) 0 (cellsB (List.replicate n 0)) 5 (blk_b1 w _ _ _) (cellsB b) (by rw [cellsB_length, HL.out]; simp [Nat.min_def]; omega) (fun h => ⟨rfl, HSRC.out _ (alloc2_bel w _ _) h⟩) (by rw [cellsB_length, HL.out, cellsB_length, List.length_replicate]; omega) (cells_one b) (w.heap.size + 1) (w.alloc (.cells (cellsB zeroK).toArray 24)) ((Below.refl _ _).alloc (by simp) _) (Nat.le_refl _) ?_; intro w4 hg4 hb4; rw [splice_head b HL.out (by omega)] at hg4; have G4 : Hid (Blk w4 (w.heap.size + 1) 5 (cellsB (b ++ List.replicate (n - L) 0)).toArray) := hg4; clear hg4; have R4 := Lib.hid ((Blk.new w 24 (cellsB zeroK).toArray).below hb4 (by omega)); have b4 := (alloc_bel w (.cells (cellsB zeroK).toArray 24)).trans (hb4.mono (by omega)); have c4 := G4.out.cell L; rw [bytes_get _ L (by rw [List.length_append, List.length_replicate, HL.out]; omega)] at c4; have f4 := G4.out.frozen L; have c5 := G4.out.cell (n - 2); rw [bytes_get _ (n - 2) (by rw [List.length_append, List.length_replicate, HL.out]; omega)] at c5; have f5 := G4.out.frozen (n - 2); have c6 := G4.out.cell (n - 1); rw [bytes_get _ (n - 1) (by rw [List.length_append, List.length_replicate, HL.out]; omega)] at c6; have f6 := G4.out.frozen (n - 1); clear hb4))
    have e1 : ((128 : UInt8).toNat : Int) = 128 := rfl
    have e2 : ((UInt8.ofNat (L / 256)).toNat : Int) = (L : Int) / 256 := by rw [UInt8.toNat_ofNat']; omega
    have e3 : ((UInt8.ofNat L).toNat : Int) = (L : Int) % 256 := by rw [UInt8.toNat_ofNat']; omega
    have G9 := ((G4.out.set_ L (.int .u8 ((128 : UInt8).toNat : Int))).set_ (n - 2) (.int .u8 ((UInt8.ofNat (L / 256)).toNat : Int))).set_ (n - 1) (.int .u8 ((UInt8.ofNat L).toNat : Int))
    rw [bytes_set, bytes_set, bytes_set, HSETS.out, e1, e2, e3] at G9
    have RZ := (((R4.out.far (p := ⟨w.heap.size + 1, L, none⟩) (by simp) (.int .u8 128)).far (p := ⟨w.heap.size + 1, n - 2, none⟩) (by simp) (.int .u8 ((L : Int) / 256))).far (p := ⟨w.heap.size + 1, n - 1, none⟩) (by simp) (.int .u8 ((L : Int) % 256)))
    have b3 := ((b4.setCell (p := ⟨w.heap.size + 1, L, none⟩) (by simp) (.int .u8 128)).setCell (p := ⟨w.heap.size + 1, n - 2, none⟩) (by simp) (.int .u8 ((L : Int) / 256))).setCell (p := ⟨w.heap.size + 1, n - 1, none⟩) (by simp) (.int .u8 ((L : Int) % 256))
    have hgl : w.heap.size + 1 < w4.heap.size := G4.out.lt
    rw [HZ.out]
    obtain ⟨W3, hW3⟩ : ∃ W : World, W = ((w4.setCell ⟨w.heap.size + 1, L, none⟩ (.int .u8 128)).setCell ⟨w.heap.size + 1, n - 2, none⟩ (.int .u8 ((L : Int) / 256))).setCell ⟨w.heap.size + 1, n - 1, none⟩ (.int .u8 ((L : Int) % 256)) := ⟨_, rfl⟩
    have hsz : W3.heap.size = w4.heap.size := by rw [hW3]; simp
    rw [← hW3] at G9 RZ b3 ⊢
    have N9 : Blk (W3.alloc (.cells (cellsB zeroK).toArray 24)) w4.heap.size 24 (cellsB zeroK).toArray := by rw [← hsz]; exact Blk.new _ _ _
    have G9' := G9.alloc (.cells (cellsB zeroK).toArray 24)
    have RZ' := RZ.alloc (.cells (cellsB zeroK).toArray 24)
    have b9 := b3.alloc b3.size (.cells (cellsB zeroK).toArray 24)
    generalize W3.alloc (.cells (cellsB zeroK).toArray 24) = W9 at N9 G9' RZ' b9 ⊢
    clear hW3 hsz G9 RZ b3 c4 c5 c6 f4 f5 f6 e1 e2 e3
    have HN9 := Lib.hid N9
    have HG9 := Lib.hid G9'
    have HRZ := Lib.hid RZ'
    clear N9 G9' RZ'
    go_loopw [47] (fun vi wr => ∃ i : Nat, i ≤ 16 ∧ vi = .int .i64 (i : Int) ∧ Hid (Blk wr w4.heap.size 24 (cellsB (saltJ i)).toArray) ∧ Hid (Blk wr (w.heap.size + 1) 5 (cellsB (padB b)).toArray) ∧ Hid (Blk wr w.heap.size 24 (cellsB zeroK).toArray) ∧ Below w.heap.size w wr) (fun vi _ => 16 - (intOf vi).toNat)
    case atStart => exact ⟨0, by omega, rfl, HN9.out, HG9.out, HRZ.out, b9⟩
    case round =>
      obtain ⟨i, hi, rfl, HB1, HG, HB0, hbel⟩ := hrel
      by_cases hlt : i < 16
      · have hii : (i : Int) < 16 := by omega
        have c0 := HB1.out.cell i
        rw [bytes_get _ i (by rw [saltJ_length hi]; exact hlt)] at c0
        have f0 := HB1.out.frozen i
        have HSET := Lib.hid (saltJ_set hlt)
        clear hlt
        go_wp2_with fail
        refine ⟨⟨i + 1, by omega, by go_num, ?_, HG.out.far (p := ⟨w4.heap.size, i, none⟩) (by simp; omega) _, HB0.out.far (p := ⟨w4.heap.size, i, none⟩) (by simp; omega) _, hbel.setCell (p := ⟨w4.heap.size, i, none⟩) (by simp; omega) _⟩, by simp [intOf]; omega⟩
        have h := HB1.out.set_ i (.int .u8 ((90 : UInt8).toNat : Int))
        rw [bytes_set, HSET.out] at h
        exact h
      · obtain rfl : i = 16 := by omega
        rw [show saltJ 16 = salt from rfl] at HB1
        have HFO : Hid (∀ W, BR W (some ⟨w.heap.size + 1, 0, none⟩) n (padB b) → Calls Tryz.prog 149 #[.agg (cellsB salt).toArray, .slice (some ⟨w.heap.size + 1, 0, none⟩) n n, .func (.func 150) #[] #[]] W fun e w' => e = .returned (.agg (cellsB (dgFold (padB b) salt (n / 16))).toArray) ∧ Below W.heap.size W w') := fun W hW => fold_any (padB b) salt _ n W HPL.out hn16 hW rfl
        have HBR : Hid (BR wr (some ⟨w.heap.size + 1, 0, none⟩) n (padB b)) := (HG.out.ob (Nat.le_refl _) HPL.out rfl (by omega)).br (by rw [HPL.out]; omega)
        have HSL : Hid (salt.length = 16) := rfl
        have HFL : Hid ((dgFold (padB b) salt (n / 16)).length = 16) := dgFold_length rfl _
        generalize dgFold (padB b) salt (n / 16) = f at HFO HFL HDG
        generalize salt = s0 at HB1 HFO HSL
        have hfl : (cellsB f).length = 16 := by rw [cellsB_length, HFL.out]
        have hall := all16 f
        go_wp2_with (first
          | (refine wpList_load_row rfl 24 (.tmp 6) rfl w4.heap.size rfl 24 (cellsB s0).toArray (0, 0) _ HB1.out under_key rfl (cellsB_size _ HSL.out) ?_)
          | (go_at_call 149; refine (HFO.out _ HBR.out).mono ?_; rintro e w5 ⟨rfl, hb5⟩; have Q5 := HB0.out.below' hb5; have hr5 : (rowAt w5 w.heap.size).size = 16 := (by rw [Q5.row]; rfl); have hf5 := Q5.free; have HQ5 := Lib.hid Q5; have bb5 := bel_on hbel hb5; clear Q5))
        refine bodyPost_ret (v := .tuple #[.agg (cellsB f).toArray, .int .i64 0]) ?_ rfl ⟨by rw [HDG.out], below_setRow bb5 (Nat.le_refl _) _⟩
        rw [results_cell_tmp Tryz.results92]
        simp [asAddr, Result.andThen, run_loadVar_row _ w.heap.size _ _ _ (0, 0) _ (HQ5.out.setRow (cellsB f).toArray) under_key rfl (cellsB_size _ HFL.out)]
  · rw [if_neg hr, Int.add_zero] at hnI
    have hr : (L : Int) % 16 ≤ 7 := by omega
    have HNI := Lib.hid hnI
    clear hL h hl hn hnI
    go_enter Tryz.func92, Tryz.ntmps92
    go_wp2_with (first
      | (rw [← HNI.out])
      | (rw [HMB.out, HZ.out]; refine wpList_copy_splice rfl (.tmp 25) (.tmp 26) 22 22 rfl 5 Tryz.underlying22 (by kernel_rfl) (some ⟨w.heap.size + 1, 0, none⟩) A n n L c rfl rfl (w.heap.size + 1) 0 (cellsB (List.replicate n 0)) 5 (blk_b1 w _ _ _) (cellsB b) (by rw [cellsB_length, HL.out]; simp [Nat.min_def]; omega) (fun h => ⟨rfl, HSRC.out _ (alloc2_bel w _ _) h⟩) (by rw [cellsB_length, HL.out, cellsB_length, List.length_replicate]; omega) (cells_one b) (w.heap.size + 1) (w.alloc (.cells (cellsB zeroK).toArray 24)) ((Below.refl _ _).alloc (by simp) _) (Nat.le_refl _) ?_; intro w4 hg4 hb4; rw [splice_head b HL.out (by omega)] at hg4; have G4 : Hid (Blk w4 (w.heap.size + 1) 5 (cellsB (b ++ List.replicate (n - L) 0)).toArray) := hg4; clear hg4; have R4 := Lib.hid ((Blk.new w 24 (cellsB zeroK).toArray).below hb4 (by omega)); have b4 := (alloc_bel w (.cells (cellsB zeroK).toArray 24)).trans (hb4.mono (by omega)); have c4 := G4.out.cell L; rw [bytes_get _ L (by rw [List.length_append, List.length_replicate, HL.out]; omega)] at c4; have f4 := G4.out.frozen L; have c5 := G4.out.cell (n - 2); rw [bytes_get _ (n - 2) (by rw [List.length_append, List.length_replicate, HL.out]; omega)] at c5; have f5 := G4.out.frozen (n - 2); have c6 := G4.out.cell (n - 1); rw [bytes_get _ (n - 1) (by rw [List.length_append, List.length_replicate, HL.out]; omega)] at c6; have f6 := G4.out.frozen (n - 1); clear hb4))
    have e1 : ((128 : UInt8).toNat : Int) = 128 := rfl
    have e2 : ((UInt8.ofNat (L / 256)).toNat : Int) = (L : Int) / 256 := by rw [UInt8.toNat_ofNat']; omega
    have e3 : ((UInt8.ofNat L).toNat : Int) = (L : Int) % 256 := by rw [UInt8.toNat_ofNat']; omega
    have G9 := ((G4.out.set_ L (.int .u8 ((128 : UInt8).toNat : Int))).set_ (n - 2) (.int .u8 ((UInt8.ofNat (L / 256)).toNat : Int))).set_ (n - 1) (.int .u8 ((UInt8.ofNat L).toNat : Int))
    rw [bytes_set, bytes_set, bytes_set, HSETS.out, e1, e2, e3] at G9
    have RZ := (((R4.out.far (p := ⟨w.heap.size + 1, L, none⟩) (by simp) (.int .u8 128)).far (p := ⟨w.heap.size + 1, n - 2, none⟩) (by simp) (.int .u8 ((L : Int) / 256))).far (p := ⟨w.heap.size + 1, n - 1, none⟩) (by simp) (.int .u8 ((L : Int) % 256)))
    have b3 := ((b4.setCell (p := ⟨w.heap.size + 1, L, none⟩) (by simp) (.int .u8 128)).setCell (p := ⟨w.heap.size + 1, n - 2, none⟩) (by simp) (.int .u8 ((L : Int) / 256))).setCell (p := ⟨w.heap.size + 1, n - 1, none⟩) (by simp) (.int .u8 ((L : Int) % 256))
    have hgl : w.heap.size + 1 < w4.heap.size := G4.out.lt
    rw [HZ.out]
    obtain ⟨W3, hW3⟩ : ∃ W : World, W = ((w4.setCell ⟨w.heap.size + 1, L, none⟩ (.int .u8 128)).setCell ⟨w.heap.size + 1, n - 2, none⟩ (.int .u8 ((L : Int) / 256))).setCell ⟨w.heap.size + 1, n - 1, none⟩ (.int .u8 ((L : Int) % 256)) := ⟨_, rfl⟩
    have hsz : W3.heap.size = w4.heap.size := by rw [hW3]; simp
    rw [← hW3] at G9 RZ b3 ⊢
    have N9 : Blk (W3.alloc (.cells (cellsB zeroK).toArray 24)) w4.heap.size 24 (cellsB zeroK).toArray := by rw [← hsz]; exact Blk.new _ _ _
    have G9' := G9.alloc (.cells (cellsB zeroK).toArray 24)
    have RZ' := RZ.alloc (.cells (cellsB zeroK).toArray 24)
    have b9 := b3.alloc b3.size (.cells (cellsB zeroK).toArray 24)
    generalize W3.alloc (.cells (cellsB zeroK).toArray 24) = W9 at N9 G9' RZ' b9 ⊢
    clear hW3 hsz G9 RZ b3 c4 c5 c6 f4 f5 f6 e1 e2 e3
    have HN9 := Lib.hid N9
    have HG9 := Lib.hid G9'
    have HRZ := Lib.hid RZ'
    clear N9 G9' RZ'
    go_loopw [47] (fun vi wr => ∃ i : Nat, i ≤ 16 ∧ vi = .int .i64 (i : Int) ∧ Hid (Blk wr w4.heap.size 24 (cellsB (saltJ i)).toArray) ∧ Hid (Blk wr (w.heap.size + 1) 5 (cellsB (padB b)).toArray) ∧ Hid (Blk wr w.heap.size 24 (cellsB zeroK).toArray) ∧ Below w.heap.size w wr) (fun vi _ => 16 - (intOf vi).toNat)
    case atStart => exact ⟨0, by omega, rfl, HN9.out, HG9.out, HRZ.out, b9⟩
    case round =>
      obtain ⟨i, hi, rfl, HB1, HG, HB0, hbel⟩ := hrel
      by_cases hlt : i < 16
      · have hii : (i : Int) < 16 := by omega
        have c0 := HB1.out.cell i
        rw [bytes_get _ i (by rw [saltJ_length hi]; exact hlt)] at c0
        have f0 := HB1.out.frozen i
        have HSET := Lib.hid (saltJ_set hlt)
        clear hlt
        go_wp2_with fail
        refine ⟨⟨i + 1, by omega, by go_num, ?_, HG.out.far (p := ⟨w4.heap.size, i, none⟩) (by simp; omega) _, HB0.out.far (p := ⟨w4.heap.size, i, none⟩) (by simp; omega) _, hbel.setCell (p := ⟨w4.heap.size, i, none⟩) (by simp; omega) _⟩, by simp [intOf]; omega⟩
        have h := HB1.out.set_ i (.int .u8 ((90 : UInt8).toNat : Int))
        rw [bytes_set, HSET.out] at h
        exact h
      · obtain rfl : i = 16 := by omega
        rw [show saltJ 16 = salt from rfl] at HB1
        have HFO : Hid (∀ W, BR W (some ⟨w.heap.size + 1, 0, none⟩) n (padB b) → Calls Tryz.prog 149 #[.agg (cellsB salt).toArray, .slice (some ⟨w.heap.size + 1, 0, none⟩) n n, .func (.func 150) #[] #[]] W fun e w' => e = .returned (.agg (cellsB (dgFold (padB b) salt (n / 16))).toArray) ∧ Below W.heap.size W w') := fun W hW => fold_any (padB b) salt _ n W HPL.out hn16 hW rfl
        have HBR : Hid (BR wr (some ⟨w.heap.size + 1, 0, none⟩) n (padB b)) := (HG.out.ob (Nat.le_refl _) HPL.out rfl (by omega)).br (by rw [HPL.out]; omega)
        have HSL : Hid (salt.length = 16) := rfl
        have HFL : Hid ((dgFold (padB b) salt (n / 16)).length = 16) := dgFold_length rfl _
        generalize dgFold (padB b) salt (n / 16) = f at HFO HFL HDG
        generalize salt = s0 at HB1 HFO HSL
        have hfl : (cellsB f).length = 16 := by rw [cellsB_length, HFL.out]
        have hall := all16 f
        go_wp2_with (first
          | (refine wpList_load_row rfl 24 (.tmp 6) rfl w4.heap.size rfl 24 (cellsB s0).toArray (0, 0) _ HB1.out under_key rfl (cellsB_size _ HSL.out) ?_)
          | (go_at_call 149; refine (HFO.out _ HBR.out).mono ?_; rintro e w5 ⟨rfl, hb5⟩; have Q5 := HB0.out.below' hb5; have hr5 : (rowAt w5 w.heap.size).size = 16 := (by rw [Q5.row]; rfl); have hf5 := Q5.free; have HQ5 := Lib.hid Q5; have bb5 := bel_on hbel hb5; clear Q5))
        refine bodyPost_ret (v := .tuple #[.agg (cellsB f).toArray, .int .i64 0]) ?_ rfl ⟨by rw [HDG.out], below_setRow bb5 (Nat.le_refl _) _⟩
        rw [results_cell_tmp Tryz.results92]
        simp [asAddr, Result.andThen, run_loadVar_row _ w.heap.size _ _ _ (0, 0) _ (HQ5.out.setRow (cellsB f).toArray) under_key rfl (cellsB_size _ HFL.out)]
end Go.Proofs.YtinpiodfpnbllaaGreatDoor

/- The texts of leaves and nodes. -/
namespace Go.Proofs.YtinpiodfpnbllaaGreatDoor
open Go.RowKit
set_option linter.unusedVariables false

def leafX (k : List UInt8) : List UInt8 := 0 :: k
def nodeX (a b : List UInt8) : List UInt8 := 1 :: (a ++ b)
theorem Blk.src {w : World} {g : Nat} {t : TypeId} {l : List UInt8} (h : Blk w g t (cellsB l).toArray) {n : Nat} (hn : l.length = n) : Src w 1 (some ⟨g, 0, none⟩) n (cellsB l) := by
  subst hn
  refine ⟨by simp [cellsB], .inr ⟨_, rfl, fun j u hu => ?_⟩⟩
  rw [Addr.add_lit, Nat.zero_add, h.cell j]
  simpa using hu
theorem lit_after (w : World) (o : Obj) (x : UInt8) : OB w.heap.size ((w.alloc o).alloc (.cells #[.int .u8 (x.toNat : Int)] 5)) (some ⟨w.heap.size + 1, 0, none⟩) 1 [x] := by
  have h := OB.lit w.heap.size (w.alloc o) [x] (by simp) (by simp) (n := 1) rfl
  rw [World.size_alloc] at h
  exact h
theorem lit_after2 (w : World) (o o' : Obj) (x : UInt8) : OB (w.heap.size + 1 + 1) (((w.alloc o).alloc o').alloc (.cells #[.int .u8 (x.toNat : Int)] 5)) (some ⟨w.heap.size + 1 + 1, 0, none⟩) 1 [x] := by
  have h := OB.lit (w.heap.size + 1 + 1) ((w.alloc o).alloc o') [x] (by simp) (by simp) (n := 1) rfl
  rw [World.size_alloc, World.size_alloc] at h
  exact h

set_option maxHeartbeats 1000000 in
theorem leafText_any (k : List UInt8) (w : World) (hk : k.length = 16) : Calls Tryz.prog 96 #[.agg (cellsB k).toArray] w fun e w' => (∃ A c, e = .returned (.slice A 17 c) ∧ OB w.heap.size w' A c (leafX k)) ∧ Below w.heap.size w w' := by
  have HK := Lib.hid hk
  have HL := Lib.hid (lit_after w (.cells (cellsB k).toArray 24) 0)
  have HB := Lib.hid (blk_b0 w (cellsB k).toArray 24 (.cells #[.int .u8 ((0 : UInt8).toNat : Int)] 5))
  have b0 := alloc2_bel w (.cells (cellsB k).toArray 24) (.cells #[.int .u8 ((0 : UInt8).toNat : Int)] 5)
  clear hk
  go_enter Tryz.func96, Tryz.ntmps96
  go_wp2_with (at_builtin; refine wpList_append_bytes _ rfl (.tmp 3) (.tmp 4) rfl w.heap.size (some ⟨w.heap.size + 1, 0, none⟩) 1 1 [0] rfl rfl HL.out (some ⟨w.heap.size, 0, none⟩) 16 16 k HK.out rfl (HB.out.src HK.out) (by omega) (by simp; omega) ?_; intro A5 c5 w5 hon5 hbl5 hg5; have HON5 := Lib.hid hon5; have b5 := b0.trans hbl5; clear hon5 hg5 hbl5)
  go_ret
  exact ⟨⟨A5, c5, rfl, HON5.out⟩, b5⟩
set_option maxHeartbeats 1000000 in
theorem refLeafText_any (k : List UInt8) (w : World) (hk : k.length = 16) : Calls Tryz.prog 181 #[.agg (cellsB k).toArray] w fun e w' => (∃ A c, e = .returned (.slice A 17 c) ∧ OB w.heap.size w' A c (leafX k)) ∧ Below w.heap.size w w' := by
  have HK := Lib.hid hk
  have HL := Lib.hid (lit_after w (.cells (cellsB k).toArray 24) 0)
  have HB := Lib.hid (blk_b0 w (cellsB k).toArray 24 (.cells #[.int .u8 ((0 : UInt8).toNat : Int)] 5))
  have b0 := alloc2_bel w (.cells (cellsB k).toArray 24) (.cells #[.int .u8 ((0 : UInt8).toNat : Int)] 5)
  clear hk
  go_enter Tryz.func181, Tryz.ntmps181
  go_wp2_with (at_builtin; refine wpList_append_bytes _ rfl (.tmp 3) (.tmp 4) rfl w.heap.size (some ⟨w.heap.size + 1, 0, none⟩) 1 1 [0] rfl rfl HL.out (some ⟨w.heap.size, 0, none⟩) 16 16 k HK.out rfl (HB.out.src HK.out) (by omega) (by simp; omega) ?_; intro A5 c5 w5 hon5 hbl5 hg5; have HON5 := Lib.hid hon5; have b5 := b0.trans hbl5; clear hon5 hg5 hbl5)
  go_ret
  exact ⟨⟨A5, c5, rfl, HON5.out⟩, b5⟩
set_option maxHeartbeats 1000000 in
theorem refNodeText_any (a b : List UInt8) (w : World) (ha : a.length = 16) (hb : b.length = 16) : Calls Tryz.prog 182 #[.agg (cellsB a).toArray, .agg (cellsB b).toArray] w fun e w' => (∃ A c, e = .returned (.slice A 33 c) ∧ OB w.heap.size w' A c (nodeX a b)) ∧ Below w.heap.size w w' := by
  have HA := Lib.hid ha
  have HB := Lib.hid hb
  have HL := Lib.hid (lit_after2 w (.cells (cellsB a).toArray 24) (.cells (cellsB b).toArray 24) 1)
  have HBa := Lib.hid (blk_a0 w (cellsB a).toArray 24 (.cells (cellsB b).toArray 24) (.cells #[.int .u8 ((1 : UInt8).toNat : Int)] 5))
  have HBb := Lib.hid (blk_a1 w (.cells (cellsB a).toArray 24) (cellsB b).toArray 24 (.cells #[.int .u8 ((1 : UInt8).toNat : Int)] 5))
  have b0 := alloc3_bel w (.cells (cellsB a).toArray 24) (.cells (cellsB b).toArray 24) (.cells #[.int .u8 ((1 : UInt8).toNat : Int)] 5)
  have HAL : Hid ((([1] : List UInt8) ++ a).length = 17) := by unfold Hid; simp [ha]
  clear ha hb
  go_enter Tryz.func182, Tryz.ntmps182
  go_wp2_with (first
    | (at_builtin; refine wpList_append_bytes _ rfl (.tmp 6) (.tmp 7) rfl (w.heap.size + 1 + 1) (some ⟨w.heap.size + 1 + 1, 0, none⟩) 1 1 [1] rfl rfl HL.out (some ⟨w.heap.size, 0, none⟩) 16 16 a HA.out rfl (HBa.out.src HA.out) (by omega) (by simp) ?_; intro A5 c5 w5 hon5 hbl5 hg5; have HON5 := Lib.hid hon5; have HBb5 := Lib.hid (HBb.out.below hbl5 (by omega)); have b5 := b0.trans (hbl5.mono (by omega)); clear hon5 hg5 hbl5)
    | (at_builtin; refine wpList_append_bytes _ rfl (.tmp 9) (.tmp 10) rfl (w.heap.size + 1 + 1) A5 17 c5 ([1] ++ a) HAL.out rfl HON5.out (some ⟨w.heap.size + 1, 0, none⟩) 16 16 b HB.out rfl (HBb5.out.src HB.out) (by omega) (by have := HBb5.out.lt; omega) ?_; intro A6 c6 w6 hon6 hbl6 hg6; have HON6 := Lib.hid hon6; have b6 := b5.trans (hbl6.mono (by omega)); clear hon6 hg6 hbl6))
  go_ret
  exact ⟨⟨A6, c6, rfl, HON6.out.le_ (by omega)⟩, b6⟩
end Go.Proofs.YtinpiodfpnbllaaGreatDoor

/- The program's digest of a text that is not too long, and of a leaf. -/
namespace Go.Proofs.YtinpiodfpnbllaaGreatDoor
open Go.RowKit
set_option linter.unusedVariables false
attribute [local go_sem] run_storeCells_key run_storeCells_new

set_option maxHeartbeats 1000000 in
set_option maxRecDepth 100000 in
theorem digest_any (b : List UInt8) (A : Option Addr) (c : Nat) (w : World) {L : Nat} (hL : b.length = L) (h : BR w A c b) (hl : L ≤ 16384) :
    Calls Tryz.prog 121 #[.slice A L c] w fun e w' => e = .returned (.agg (cellsB (digS b)).toArray) ∧ Below w.heap.size w w' := by
  have HZ := Lib.hid zero16
  have b0 := alloc_bel w (.cells (cellsB zeroK).toArray 24)
  have B0 := Lib.hid (Blk.new w 24 (cellsB zeroK).toArray)
  have HH : Hid (∀ W, Below w.heap.size w W → Calls Tryz.prog 92 #[.slice A L c] W fun e w' => e = .returned (.tuple #[.agg (cellsB (digS b)).toArray, .int .i64 0]) ∧ Below W.heap.size W w') := fun W hW => Hash_any b A c W hL (h.below hW) hl
  have HDL : Hid ((digS b).length = 16) := digS_length b
  generalize digS b = d at HH HDL
  have hdc : (cellsB d).length = 16 := by rw [cellsB_length, HDL.out]
  have hall := all16 d
  clear hL h hl
  go_enter Tryz.func121, Tryz.ntmps121
  go_wp2_with (first
    | (go_at_call 92; rw [HZ.out]; refine (HH.out _ b0).mono ?_; rintro e w1 ⟨rfl, hb1⟩; have b1 := bel_on b0 hb1; have Q1 := (B0.out.below' hb1).alloc (.cells (cellsB d).toArray 24); have hr1 : (rowAt (w1.alloc (.cells (cellsB d).toArray 24)) w.heap.size).size = 16 := (by rw [Q1.row]; rfl); have hf1 := Q1.free; have HQ1 := Lib.hid Q1; clear Q1)
    | (refine wpList_load_row rfl 24 (.tmp 3) rfl w1.heap.size rfl 24 (cellsB d).toArray (0, 0) _ (Blk.new w1 _ _) under_key rfl (cellsB_size _ HDL.out) ?_))
  exact bodyPost_ret (results_cell_row rfl _ _ w.heap.size _ _ (0, 0) _ rfl (HQ1.out.setRow (cellsB d).toArray) under_key rfl (cellsB_size _ HDL.out)) rfl ⟨rfl, below_setRow (b1.alloc b1.size _) (Nat.le_refl _) _⟩
set_option maxHeartbeats 1000000 in
set_option maxRecDepth 100000 in
theorem leafHash_any (k : List UInt8) (w : World) (hk : k.length = 16) :
    Calls Tryz.prog 140 #[.agg (cellsB k).toArray] w fun e w' => e = .returned (.agg (cellsB (digS (leafT k))).toArray) ∧ Below w.heap.size w w' := by
  have HZ := Lib.hid zero16
  have HK := Lib.hid hk
  have b0 := alloc2_bel w (.cells (cellsB k).toArray 24) (.cells (cellsB zeroK).toArray 24)
  have B1 := Lib.hid (blk_b1 w (.cells (cellsB k).toArray 24) (cellsB zeroK).toArray 24)
  have HLT : Hid (∀ W, Calls Tryz.prog 96 #[.agg (cellsB k).toArray] W fun e w' => (∃ A c, e = .returned (.slice A 17 c) ∧ OB W.heap.size w' A c (leafT k)) ∧ Below W.heap.size W w') := fun W => leafText_any k W hk
  have HLL : Hid ((leafT k).length = 17) := by unfold Hid leafT; simp [hk]
  have HD : Hid (∀ W A c, BR W A c (leafT k) → Calls Tryz.prog 121 #[.slice A 17 c] W fun e w' => e = .returned (.agg (cellsB (digS (leafT k))).toArray) ∧ Below W.heap.size W w') := fun W A c h => digest_any (leafT k) A c W HLL.out h (by omega)
  have HDL : Hid ((digS (leafT k)).length = 16) := digS_length _
  generalize digS (leafT k) = d at HD HDL
  generalize leafT k = t at HLT HD HLL
  have hdc : (cellsB d).length = 16 := by rw [cellsB_length, HDL.out]
  have hall := all16 d
  clear hk
  go_enter Tryz.func140, Tryz.ntmps140
  go_wp2_with (first
    | (rw [HZ.out]; refine wpList_load_row rfl 24 (.tmp 1) rfl w.heap.size rfl 24 (cellsB k).toArray (0, 0) _ (blk_b0 w _ _ _) under_key rfl (cellsB_size _ HK.out) ?_)
    | (go_at_call 96; refine (HLT.out _).mono ?_; rintro e w1 ⟨⟨A1, c1, rfl, ho1⟩, hb1⟩; have HO1 := Lib.hid (ho1.br (by rw [HLL.out]; omega)); have b1 := bel_on b0 hb1; clear ho1)
    | (go_at_call 121; refine (HD.out _ _ _ HO1.out).mono ?_; rintro e w2 ⟨rfl, hb2⟩; have b2 := bel_on b1 hb2; have Q2 := (B1.out.below' hb1).below' hb2; have hr2 : (rowAt w2 (w.heap.size + 1)).size = 16 := (by rw [Q2.row]; rfl); have hf2 := Q2.free; have HQ2 := Lib.hid Q2; clear Q2))
  exact bodyPost_ret (results_cell_row rfl _ _ (w.heap.size + 1) _ _ (0, 0) _ rfl (HQ2.out.setRow (cellsB d).toArray) under_key rfl (cellsB_size _ HDL.out)) rfl ⟨rfl, below_setRow b2 (by omega) _⟩
end Go.Proofs.YtinpiodfpnbllaaGreatDoor

/- The program's text of a node, and its digest. -/
namespace Go.Proofs.YtinpiodfpnbllaaGreatDoor
open Go.RowKit
set_option linter.unusedVariables false
attribute [local go_sem] run_storeCells_key run_storeCells_new

theorem Blk.brn {w : World} {g : Nat} {t : TypeId} {l : List UInt8} (h : Blk w g t (cellsB l).toArray) {n : Nat} (hn : l.length = n) (hs : n ≤ 1000000) : BR w (some ⟨g, 0, none⟩) n l := by
  subst hn
  refine ⟨⟨by rw [cellsB_length, Nat.mul_one], Nat.le_refl _, by omega, by omega⟩, fun _ => ⟨g, 0, rfl, h.lt, fun j v hv => ?_⟩⟩
  rw [Nat.zero_add, h.cell j]
  simpa using hv

set_option maxHeartbeats 1000000 in
set_option maxRecDepth 100000 in
theorem nodeText_any (a b : List UInt8) (w : World) (ha : a.length = 16) (hb : b.length = 16) : Calls Tryz.prog 98 #[.agg (cellsB a).toArray, .agg (cellsB b).toArray] w fun e w' => (∃ A c, e = .returned (.slice A 33 c) ∧ OB w.heap.size w' A c (nodeX a b)) ∧ Below w.heap.size w w' := by
  have HA := Lib.hid ha
  have HB := Lib.hid hb
  have b0 := alloc2_bel w (.cells (cellsB a).toArray 24) (.cells (cellsB b).toArray 24)
  have B0 := Lib.hid (blk_b0 w (cellsB a).toArray 24 (.cells (cellsB b).toArray 24))
  have B1 := Lib.hid (blk_b1 w (.cells (cellsB a).toArray 24) (cellsB b).toArray 24)
  clear ha hb
  go_enter Tryz.func98, Tryz.ntmps98
  go_wp2_with fail
  obtain ⟨W0, hW0⟩ : ∃ W : World, W = (w.alloc (.cells (cellsB a).toArray 24)).alloc (.cells (cellsB b).toArray 24) := ⟨_, rfl⟩
  rw [← hW0] at b0 B0 B1 ⊢
  clear hW0
  refine wp_region_noPanic ?_
  refine wp_region_held_drew (S := fun _ => True) (by kernel_rfl) trivial (fun hS => ?_)
  refine hd_take 1 (.slice (some ⟨w.heap.size, 0, none⟩) 16 16) rfl rfl (by kernel_rfl) (by kernel_rfl) (by kernel_rfl) (fun _ _ _ h => h) (fun w _ => by go_simp) hS ?_
  refine hd_take 2 (.slice (some ⟨w.heap.size + 1, 0, none⟩) 16 16) rfl rfl (by kernel_rfl) (by kernel_rfl) (by kernel_rfl) (fun _ _ _ h => h) (fun w _ => by go_simp) hS ?_
  obtain ⟨g, hg⟩ : ∃ g, W0.drew.heap.size = g := ⟨_, rfl⟩
  have N1 : Blk (W0.drew.alloc (.cells (cellsB [1]).toArray 5)) g 5 (cellsB [1]).toArray := by rw [← hg]; exact Blk.new _ _ _
  have b1 := b0.drew.alloc b0.drew.size (.cells (cellsB [1]).toArray 5)
  have C0 := B0.out.drew.alloc (.cells (cellsB [1]).toArray 5)
  have C1 := B1.out.drew.alloc (.cells (cellsB [1]).toArray 5)
  refine hd_sole 0 (by kernel_rfl) (op_run (.slice (some ⟨g, 0, none⟩) 1 1) (W0.drew.alloc (.cells (cellsB [1]).toArray 5)) rfl rfl (by rw [← hg]; go_simp; try rfl) ⟨trivial, ?_⟩)
  generalize W0.drew.alloc (.cells (cellsB [1]).toArray 5) = W1 at N1 b1 C0 C1 ⊢
  simp only [List.getElem_toArray, List.getElem_cons_succ, List.getElem_cons_zero, Act.put, List.setIfInBounds_toArray, List.set_cons_zero, List.set_cons_succ]
  obtain ⟨g2, hg2⟩ : ∃ g2, W1.heap.size = g2 := ⟨_, rfl⟩
  obtain ⟨rs, hrs⟩ : ∃ rs : List BRow, rs = [⟨some ⟨g, 0, none⟩, 1, [1]⟩, ⟨some ⟨w.heap.size, 0, none⟩, 16, a⟩, ⟨some ⟨w.heap.size + 1, 0, none⟩, 16, b⟩] := ⟨_, rfl⟩
  have hcells : (rs.map BRow.v).toArray = #[.slice (some ⟨g, 0, none⟩) 1 1, .slice (some ⟨w.heap.size, 0, none⟩) 16 16, .slice (some ⟨w.heap.size + 1, 0, none⟩) 16 16] := by rw [hrs]; simp [BRow.v, HA.out, HB.out]
  have hrl : rs.length = 3 := by rw [hrs]; rfl
  have hcat : catL rs 3 = nodeX a b := by rw [hrs]; simp [catL, nodeX]
  have hnl : (nodeX a b).length = 33 := by simp [nodeX, HA.out, HB.out]
  have b2 := b1.alloc b1.size (.cells (rs.map BRow.v).toArray 22)
  have hRR : RR (W1.alloc (.cells (rs.map BRow.v).toArray 22)) (some ⟨g2, 0, none⟩) 3 rs := by
    refine ⟨⟨⟨by rw [List.length_map, Nat.mul_one], by omega, by omega, by omega⟩, fun _ => ⟨g2, 0, rfl, by rw [← hg2]; simp, fun j v hv => ?_⟩⟩, fun r hr => ?_⟩
    · rw [Nat.zero_add, ← hg2, (Blk.new W1 22 (rs.map BRow.v).toArray).cell j]
      simpa using hv
    · rw [hrs] at hr
      simp only [List.mem_cons, List.not_mem_nil, or_false] at hr
      rcases hr with rfl | rfl | rfl
      · exact (N1.alloc _).brn (n := 1) rfl (by omega)
      · exact (C0.alloc _).brn (n := 16) HA.out (by omega)
      · exact (C1.alloc _).brn (n := 16) HB.out (by omega)
  refine hd_sole 3 (by kernel_rfl) (op_run (.slice (some ⟨g2, 0, none⟩) 3 3) (W1.alloc (.cells (rs.map BRow.v).toArray 22)) rfl rfl (by rw [← hg2, hcells]; go_simp) ⟨trivial, ?_⟩)
  generalize W1.alloc (.cells (rs.map BRow.v).toArray 22) = W2 at b2 hRR ⊢
  simp only [List.getElem_toArray, List.getElem_cons_succ, List.getElem_cons_zero, Act.put, List.setIfInBounds_toArray, List.set_cons_zero, List.set_cons_succ]
  refine hd_calls 4 122 #[.slice (some ⟨g2, 0, none⟩) 3 3] rfl rfl (by kernel_rfl) (by go_simp) ((Concat_any (some ⟨g2, 0, none⟩) 3 rs W2 hrl hRR (N := 33) (by rw [hcat, hnl]) (by omega) (by omega)).mono ?_)
  rintro e w5 ⟨⟨A5, c5, rfl, ho5⟩, hb5⟩
  rw [hcat] at ho5
  refine ⟨_, rfl, trivial, ?_⟩
  refine hd_take 5 (.slice A5 33 c5) rfl rfl (by kernel_rfl) (by kernel_rfl) (by kernel_rfl) (fun _ _ _ h => h) (fun w _ => by go_simp) trivial ?_
  refine wpAnyH_done (by kernel_rfl) (NoPanic.normal ?_) _
  simp only [List.getElem_toArray, List.getElem_cons_succ, List.getElem_cons_zero, Act.put, List.setIfInBounds_toArray, List.set_cons_zero, List.set_cons_succ]
  have HO5 := Lib.hid (OB.le_ (B' := w.heap.size) ho5 b2.size)
  have bF := bel_on b2 hb5
  clear ho5
  go_wp2_with fail
  go_ret
  exact ⟨⟨A5, c5, rfl, HO5.out⟩, bF⟩
end Go.Proofs.YtinpiodfpnbllaaGreatDoor

/- A region that draws its order, whose operations only read but for one that waits for all the others (a store at the end): one walk of the text's order, then the last one. -/
namespace Go.Proofs.YtinpiodfpnbllaaGreatDoor
open Go.RowKit
set_option linter.unusedVariables false

section
variable {P : Program} {ops : Array Oper} {md : Region.Mode} {C : World → Prop}

/-- Operation m waits for each other one that has not come up yet. -/
def waitsAll (md : Region.Mode) (ops : Array Oper) (m : Nat) (listed : Array Bool) : Prop := ∀ s, ops[m]? = some s → ∀ k, k ≠ m → listed.getD k true = false → ∃ e ∈ s.after, Region.binds md e = true ∧ e.on = k
def waitsAllB (md : Region.Mode) (ops : Array Oper) (m : Nat) (listed : Array Bool) : Bool := match ops[m]? with
  | none => true
  | some s => (List.range listed.size).all fun k => k == m || listed.getD k true || s.after.any fun e => Region.binds md e && e.on == k
theorem waitsAll_of {m : Nat} {listed : Array Bool} (h : waitsAllB md ops m listed = true) : waitsAll md ops m listed := by
  intro s hs k hk hl
  unfold waitsAllB at h
  rw [hs] at h
  have hlt : k < listed.size := by
    rcases Nat.lt_or_ge k listed.size with h' | h'
    · exact h'
    · simp [Array.getD, Nat.not_lt.2 h'] at hl
  have := List.all_eq_true.1 h k (List.mem_range.2 hlt)
  rw [hl] at this
  simp only [Bool.or_false, Bool.or_eq_true, beq_iff_eq] at this
  rcases this with h1 | h1
  · exact absurd h1 hk
  · obtain ⟨e, he, h2⟩ := Array.any_eq_true'.1 h1
    simp only [Bool.and_eq_true, beq_iff_eq] at h2
    exact ⟨e, he, h2.1, h2.2⟩
theorem waitsAll.set {m : Nat} {listed : Array Bool} (h : waitsAll md ops m listed) (j : Nat) : waitsAll md ops m (listed.setIfInBounds j true) := by
  intro s hs k hk hl
  refine h s hs k hk ?_
  by_cases hjk : j = k
  · subst hjk
    rcases Nat.lt_or_ge j listed.size with h' | h'
    · simp [Array.getD, h'] at hl
    · simp [Array.getD, Nat.not_lt.2 h'] at hl
  · rw [getD_set_ne true hjk] at hl; exact hl

/-- Whatever order is picked, up to the last one. -/
def wpAnyE (P : Program) (md : Region.Mode) (ops : Array Oper) (C : World → Prop) (m : Nat) (Q : Act → Prop) : Nat → Array Bool → Act → Prop
  | 0, _, _ => False
  | fuel + 1, listed, a => Region.ready md ops listed ≠ [] ∧ ∀ i ∈ Region.ready md ops listed, if i = m then Q a else qOp P ops C i (wpAnyE P md ops C m Q fuel (listed.setIfInBounds i true)) a

theorem ready_done {m : Nat} {listed : Array Bool} (hm : m ∈ Region.ready md ops listed) (hw : waitsAll md ops m listed) : Region.ready md ops (listed.setIfInBounds m true) = [] := by
  apply List.eq_nil_iff_forall_not_mem.2
  intro i hi
  obtain ⟨hun, oi, hoi, _⟩ := mem_ready.1 hi
  obtain ⟨hmun, om, hom, hall⟩ := mem_ready.1 hm
  by_cases him : i = m
  · subst him
    rcases Nat.lt_or_ge i listed.size with h' | h'
    · simp [Array.getD, h'] at hun
    · simp [Array.getD, Nat.not_lt.2 h'] at hun
  · rw [getD_set_ne true (Ne.symm him)] at hun
    obtain ⟨e, he, hb, hon⟩ := hw om hom i him hun
    have h1 := hall e he hb
    rw [hon] at h1
    rcases Nat.lt_or_ge i listed.size with h' | h'
    · simp [Array.getD, h'] at hun h1
      rw [hun] at h1; cases h1
    · simp [Array.getD, Nat.not_lt.2 h'] at hun

theorem wpAny_of_end {m : Nat} {Q : Act → Prop} {Q' : Exit → Act → World → Prop} (hQ : ∀ a w, C w → Q a → wpOp P ops Q' m (fun a' w' => Q' .normal a' w') a w) : ∀ (fuel : Nat) (listed : Array Bool) (a : Act) (w : World), C w → waitsAll md ops m listed →
    wpAnyE P md ops C m Q fuel listed a → wpAny P md ops Q' fuel listed a w
  | 0, _, _, _, _, _, h => h.elim
  | fuel + 1, listed, a, w, hw, hI, h => ⟨fun h0 => absurd h0 h.1, fun i hi => by
    have h2 := h.2 i hi
    by_cases him : i = m
    · subst him
      rw [if_pos rfl] at h2
      have h3 := hQ a w hw h2
      have hd := ready_done hi hI
      have hk : ∀ a' w', Q' .normal a' w' → wpAny P md ops Q' fuel (listed.setIfInBounds i true) a' w' := fun a' w' hq => by
        cases fuel with
        | zero => exact ⟨hd, hq⟩
        | succ f => exact ⟨fun _ => hq, fun j hj => by rw [hd] at hj; cases hj⟩
      unfold wpOp at h3 ⊢
      split
      · rename_i ho; simp only [ho] at h3; exact hk _ _ h3
      · rename_i o ho
        simp only [ho] at h3
        split
        · rename_i hwt; simp only [hwt, if_true] at h3; exact h3.imp (Oper.wp_mono hk) id
        · rename_i hwt; simp only [hwt] at h3; exact hk _ _ h3
    · rw [if_neg him] at h2
      exact wpOp_of_qOp hw (fun a' w' hw' => wpAny_of_end hQ fuel _ a' w' hw' (hI.set i)) h2⟩

theorem wpAnyE_first {m : Nat} {Q : Act → Prop} {i : Nat} {oi : Oper} {v : Value} (him : i ≠ m) (hi : ops[i]? = some oi) (hsel : ∀ (j : Nat) (o : Oper) cs b, ops[j]? = some o → o.op ≠ .select cs b) :
    ∀ (fuel : Nat) (listed : Array Bool) (a : Act), waitsAll md ops m listed →
      (∀ j oj, ops[j]? = some oj → j ≠ i → listed.getD j true = false → (∀ e ∈ oj.after, Region.binds md e = true → e.on ≠ i) → oi.apart ops oj = true) →
      i ∈ Region.ready md ops listed → YieldsIn P ops C oi v a →
      wpAnyE P md ops C m Q fuel (listed.setIfInBounds i true) (a.put oi.dst v) → wpAnyE P md ops C m Q (fuel + 1) listed a := by
  intro fuel
  induction fuel with
  | zero => intro listed a _ _ _ _ H; exact H.elim
  | succ fuel ih =>
    intro listed a hI hfree hr hy H
    refine ⟨fun h => (by rw [h] at hr; cases hr), fun j hj => ?_⟩
    by_cases hji : j = i
    · subst hji; rw [if_neg him]; exact hy.qOp hi H
    · have h1 := H.2 j (ready_mono hj hji)
      obtain ⟨hjun, oj, hoj, hall⟩ := mem_ready.1 hj
      have hnot : ∀ e ∈ oj.after, Region.binds md e = true → e.on ≠ i := fun e he hb heq => by
        have h1 := hall e he hb
        have h0 := (mem_ready.1 hr).1
        rw [heq] at h1
        rcases Nat.lt_or_ge i listed.size with h' | h'
        · simp [h'] at h0 h1; rw [h0] at h1; cases h1
        · simp [Array.getElem?_eq_none h'] at h1
      by_cases hjm : j = m
      · subst hjm
        obtain ⟨e, he, hb, hon⟩ := hI oj hoj i him (mem_ready.1 hr).1
        exact absurd hon (hnot e he hb)
      · rw [if_neg hjm] at h1 ⊢
        have h2 := qOp_put hoj (hfree j oj hoj hji hjun hnot) (fun cs b => hsel i oi cs b hi) (fun cs b => hsel j oj cs b hoj) hy h1
        have hfree' : ∀ k ok, ops[k]? = some ok → k ≠ i → (listed.setIfInBounds j true).getD k true = false →
            (∀ e ∈ ok.after, Region.binds md e = true → e.on ≠ i) → oi.apart ops ok = true := fun k ok hk hki hun hno => by
          refine hfree k ok hk hki ?_ hno
          by_cases hjk : j = k
          · subst hjk; exact hjun
          · rw [getD_set_ne true hjk] at hun; exact hun
        refine qOp_mono (fun a' h3 => ih (listed.setIfInBounds j true) a' (hI.set j) hfree' (ready_mono hr (Ne.symm hji)) h3.1 ?_) h2
        rw [Array.setIfInBounds_comm _ _ hji]
        exact h3.2

/-- The text's order, up to the last one, by a Bool. -/
def lexTo (md : Region.Mode) (ops : Array Oper) (m : Nat) : Nat → Nat → Array Bool → Bool
  | 0, _, listed => (Region.ready md ops listed) == [m]
  | fuel + 1, k, listed => k != m && (Region.ready md ops listed).contains k && Region.free md ops listed k && lexTo md ops m fuel (k + 1) (listed.setIfInBounds k true)

theorem wpAnyE_lex {m : Nat} {Q : Act → Prop} (hs : Region.noSelect ops = true) : ∀ (l : List Oper) (k : Nat) (listed : Array Bool) (a : Act), (∀ j, j < l.length → l[j]? = ops[k + j]?) → waitsAll md ops m listed →
    lexTo md ops m l.length k listed = true → wpQuiet P ops C Q l a → wpAnyE P md ops C m Q (l.length + 1) listed a
  | [], _, listed, _, _, _, hB, h => by
    have hr : Region.ready md ops listed = [m] := by simpa [lexTo] using hB
    exact ⟨by rw [hr]; simp, fun i hi => by rw [hr, List.mem_singleton] at hi; rw [if_pos hi]; exact h⟩
  | o :: l, k, listed, a, hl, hI, hB, h => by
    have h0 : ops[k]? = some o := by simpa using (hl 0 (by simp)).symm
    simp only [List.length_cons, lexTo, Bool.and_eq_true, bne_iff_ne, ne_eq] at hB
    obtain ⟨⟨⟨hkm, hr⟩, hf⟩, hB'⟩ := hB
    have hst : qOp P ops C k (wpQuiet P ops C Q l) a := by unfold qOp; simp only [h0]; exact h
    obtain ⟨v, hy, hK⟩ := yieldsIn_of_qOp h0 hst
    exact wpAnyE_first hkm h0 (Region.noSelect_spec hs) (l.length + 1) listed a hI (Region.free_spec h0 hf) (by simpa using hr) hy
      (wpAnyE_lex hs l (k + 1) _ _ (fun j hj => by have := hl (j + 1) (by simp; omega); simpa [Nat.add_assoc, Nat.add_comm 1 j] using this) (hI.set k) hB' hK)

/-- From a state in which some have come up already: the text's order up to operation m, then m. -/
theorem wpAny_end {m : Nat} {Q' : Exit → Act → World → Prop} {listed : Array Bool} {a : Act} {w : World} (l : List Oper) {fuel : Nat} (hf : fuel = l.length + 1) (hs : Region.noSelect ops = true) (hl : ops.toList.take l.length = l) (hI : waitsAllB md ops m listed = true) (hB : lexTo md ops m l.length 0 listed = true) (hC : C w)
    (h : wpQuiet P ops C (fun a' => ∀ w', C w' → wpOp P ops Q' m (fun a'' w'' => Q' .normal a'' w'') a' w') l a) : wpAny P md ops Q' fuel listed a w := by
  subst hf
  refine wpAny_of_end (fun a w hw hq => hq w hw) _ _ _ _ hC (waitsAll_of hI) (wpAnyE_lex hs l 0 listed a (fun j hj => ?_) (waitsAll_of hI) hB h)
  rw [Nat.zero_add, ← Array.getElem?_toList, ← hl, List.getElem?_take]
  have hj' := hj
  rw [← hl, List.length_take] at hj'
  simp [hj]
theorem wpOp_of_wp {Q : Exit → Act → World → Prop} {m : Nat} {o : Oper} {K : Act → World → Prop} {a : Act} {w : World} (ho : ops[m]? = some o) (hg : o.guard = none) (h : o.wp P a w K Q) : wpOp P ops Q m K a w := by
  unfold wpOp
  have hw : Region.wanted o (yielded ops a.tmps) = true := by simp [Region.wanted, hg]
  simp only [ho, hw, if_true]
  exact .inl h
/-- The last operation waits for all the others. -/
theorem wp_region_last {id : Nat} (m : Nat) {Q : Exit → Act → World → Prop} {a : Act} {w : World} (hm : P.follows .mixedOrders = true) (hsz : ops.size = m + 1) (hs : Region.noSelect ops = true) (hI : waitsAllB .any ops m (Array.replicate ops.size false) = true) (hB : lexTo .any ops m m 0 (Array.replicate ops.size false) = true) (hC : C w.drew)
    (h : wpQuiet P ops C (fun a' => ∀ w', C w' → wpOp P ops Q m (fun a'' w'' => Q .normal a'' w'') a' w') (ops.toList.take m) a) : (Code.region id ops true).wp P Q a w := by
  have hl : (ops.toList.take m).length = m := by rw [List.length_take, Array.length_toList, hsz]; omega
  exact wp_region_any hm (wpAny_end (C := C) (m := m) (ops.toList.take m) (by rw [hl, hsz]) hs (by rw [hl]) hI (by rw [hl]; exact hB) hC h)
theorem wpOp_store {Q : Exit → Act → World → Prop} {m : Nat} {o : Oper} {K : Act → World → Prop} {a : Act} {w : World} (g : Nat) (cells : Array Value) (ty : TypeId) (x y : Operand) (hi : ops[m]? = some o) (ho : o.op = .store ty x y) (hg : o.guard = none)
    (hx : a.eval x = .pointer (some ⟨g, 0, none⟩)) (hy : a.eval y = .agg cells) {t : TypeId} {old : Array Value} (hb : w.heap[g]? = some (.cells old t (0, 0))) (hn : (P.info? ty).map (·.size) = some cells.size) (hold : old.size = cells.size) (h1 : cells.all (·.oneCell') = true)
    (h : K (a.put o.dst undef) (w.setRow g cells)) : wpOp P ops Q m K a w :=
  wpOp_of_wp hi hg (wp_store_row ty x y ho g cells hx hy t old hb hn hold h1 h)
end
end Go.Proofs.YtinpiodfpnbllaaGreatDoor

/- The reference's Pad. -/
namespace Go.Proofs.YtinpiodfpnbllaaGreatDoor
open Go.RowKit
set_option linter.unusedVariables false

def lenW : Value → Nat
  | .slice _ n _ => n
  | _ => 0
set_option maxHeartbeats 1000000 in
set_option maxRecDepth 100000 in
theorem refPad_any (n : Nat) (w : World) (hn : n ≤ 1000000) : Calls Tryz.prog 123 #[.int .i64 (n : Int)] w fun e w' => (∃ A c, e = .returned (.slice A (9 + padZ n) c) ∧ OB w.heap.size w' A c (padTail n)) ∧ Below w.heap.size w w' := by
  have hn1 : (n : Int) ≤ 1000000 := by omega
  have hz : padZ n ≤ 15 := by unfold padZ; omega
  have hzm : (n + 9 + padZ n) % 16 = 0 := by unfold padZ; omega
  have hzn : ∀ j, j < padZ n → (n + 9 + j) % 16 ≠ 0 := by unfold padZ; omega
  have HB : Hid (∀ W, Calls Tryz.prog 159 #[.int .u64 (n : Int), .int .i64 8] W fun e w' => ∃ A c, e = .returned (.slice A 8 c) ∧ OB W.heap.size w' A c (by8 (UInt64.ofNat n)) ∧ Below W.heap.size W w') := fun W => by
    have h := refBytes_any (UInt64.ofNat n) 8 W (by omega)
    rw [UInt64.toNat_ofNat', Nat.mod_eq_of_lt (by omega), bysN_8] at h
    exact h
  have HT : Hid (padTail n = padJ (padZ n) ++ by8 (UInt64.ofNat n)) := rfl
  generalize by8 (UInt64.ofNat n) = t8 at HB HT
  obtain ⟨zz, hzz⟩ : ∃ zz, padZ n = zz := ⟨_, rfl⟩
  rw [hzz] at hz hzm hzn HT ⊢
  have HT8 : Hid (t8.length = 8) := by
    have h := congrArg List.length HT.out
    rw [padTail_length, hzz, List.length_append, padJ_length] at h
    unfold Hid; omega
  generalize padTail n = pt at HT
  clear hzz
  go_enter Tryz.func123, Tryz.ntmps123
  go_wp2_with fail
  go_loopw [3] (fun vo wr => ∃ (j : Nat) (A' : Option Addr) (c' : Nat), j ≤ zz ∧ vo = .slice A' (j + 1) c' ∧ Hid (OB w.heap.size wr A' c' (padJ j)) ∧ Below w.heap.size w wr) (fun vo _ => zz + 1 - lenW vo)
  case atStart => exact ⟨0, some ⟨w.heap.size, 0, none⟩, 1, by omega, rfl, OB.lit _ w [128] (Nat.le_refl _) (by simp) rfl, alloc_bel _ _⟩
  case round =>
    obtain ⟨j, A', c', hj, rfl, HO, hbel⟩ := hrel
    by_cases hlt : j < zz
    · have hne := hzn j hlt
      have hmod : ((n : Int) + ((j : Int) + 1) + 8) % 16 ≠ 0 := by omega
      have HJL : Hid ((padJ j).length = j + 1) := padJ_length j
      have HJS := Lib.hid (padJ_succ j)
      clear hne
      go_wp2_with (at_builtin; refine wpList_append_bytes _ rfl (.tmp 12) (.tmp 13) rfl w.heap.size A' (j + 1) c' _ HJL.out rfl (HO.out.below (alloc_bel _ _)) (some ⟨_, 0, none⟩) 1 1 [0] rfl rfl (src_lit [0] rfl) (by omega) (by have := hbel.size; simp; omega) ?_; intro A5 c5 w5 hon5 hbl5 hg5; have HON5 := Lib.hid hon5; have b5 := (hbel.alloc hbel.size _).trans hbl5; clear hon5 hg5 hbl5)
      exact ⟨⟨j + 1, A5, c5, by omega, rfl, by rw [HJS.out]; exact HON5.out, b5⟩, by simp only [lenW]; omega⟩
    · obtain rfl : j = zz := by omega
      have hmod : ((n : Int) + ((j : Int) + 1) + 8) % 16 = 0 := by omega
      have HJL : Hid ((padJ j).length = j + 1) := padJ_length j
      go_wp2_with (first
        | (go_at_call 159; refine (HB.out _).mono ?_; rintro e w2 ⟨A2, c2, rfl, ho2, hb2⟩; have HO2 := Lib.hid ho2; clear ho2)
        | (at_builtin; refine wpList_append_bytes _ rfl (.tmp 15) (.tmp 18) rfl w.heap.size A' (j + 1) c' _ HJL.out rfl (HO.out.below hb2) A2 8 c2 t8 HT8.out rfl ((HO2.out.br (by rw [HT8.out]; omega)).src HT8.out) (by omega) (Nat.le_trans hbel.size hb2.size) ?_; intro A5 c5 w5 hon5 hbl5 hg5; have HON5 := Lib.hid hon5; have b5 := (hbel.trans (hb2.mono hbel.size)).trans hbl5; clear hon5 hg5 hbl5))
      go_ret
      exact ⟨⟨A5, c5, by show _ = Ending.returned (.slice A5 (9 + j) c5); rw [show 9 + j = j + 1 + 8 from by omega]; rfl, by rw [HT.out]; exact HON5.out⟩, b5⟩
end Go.Proofs.YtinpiodfpnbllaaGreatDoor

/- The reference's Digest. -/
namespace Go.Proofs.YtinpiodfpnbllaaGreatDoor
open Go.RowKit
set_option linter.unusedVariables false
attribute [local go_sem] run_storeCells_key

theorem OB.lowR {B : Nat} {w : World} {A : Option Addr} {c : Nat} {l : List UInt8} (h : OB B w A c l) {g : Nat} (hg : g < B) (cs : Array Value) : OB B (w.setRow g cs) A c l :=
  ⟨h.1, h.2.elim Or.inl (fun ⟨g', cap, cur, hv, hB, hh, r⟩ => Or.inr ⟨g', cap, cur, hv, hB, by rw [← hh]; exact setRow_other w g g' cs (by omega), r⟩)⟩
theorem saltJ_zero : saltJ 0 = zeroK := rfl
theorem saltJ_full : saltJ 16 = salt := rfl

set_option maxHeartbeats 2000000 in
set_option maxRecDepth 100000 in
theorem refDigest_any (b : List UInt8) (A : Option Addr) (c : Nat) (w : World) {L : Nat} (hL : b.length = L) (h : BR w A c b) (hl : L ≤ 16384) :
    Calls Tryz.prog 63 #[.slice A L c] w fun e w' => e = .returned (.agg (cellsB (digS b)).toArray) ∧ Below w.heap.size w w' := by
  have hl1 : (L : Int) ≤ 16384 := by omega
  have HL := Lib.hid hL
  have H := Lib.hid h
  have HZ := Lib.hid zero16
  have b0 := alloc2_bel w (.cells (cellsB zeroK).toArray 24) (.cells (cellsB zeroK).toArray 24)
  have B0 := Lib.hid (blk_b0 w (cellsB zeroK).toArray 24 (.cells (cellsB zeroK).toArray 24))
  have B1 := Lib.hid (blk_b1 w (.cells (cellsB zeroK).toArray 24) (cellsB zeroK).toArray 24)
  have HPAD : Hid (∀ W, Calls Tryz.prog 123 #[.int .i64 (L : Int)] W fun e w' => (∃ A c, e = .returned (.slice A (9 + padZ L) c) ∧ OB W.heap.size w' A c (padTail L)) ∧ Below W.heap.size W w') := fun W => refPad_any L W (by omega)
  have HTL : Hid ((padTail L).length = 9 + padZ L) := padTail_length L
  have HPB : Hid (padB b = b ++ padTail L) := padB_tail b hL
  have hz : padZ L ≤ 15 := by unfold padZ; omega
  obtain ⟨N, hN⟩ : ∃ N, L + (9 + padZ L) = N := ⟨_, rfl⟩
  have hN16 : N % 16 = 0 := by rw [← hN]; unfold padZ; omega
  have hNL : (padB b).length = N := by rw [padB_length, hL]; omega
  have HNL := Lib.hid hNL
  have HDG : Hid (digS b = dgN (padB b) (N / 16)) := by unfold Hid digS; rw [hNL]
  have hNb : N ≤ 20000 := by omega
  obtain ⟨z9, hz9⟩ : ∃ z9, 9 + padZ L = z9 := ⟨_, rfl⟩
  rw [hz9] at HPAD HTL hN
  generalize padTail L = pt at HPAD HTL HPB
  clear hL h hl hz hz9 hNL
  go_enter Tryz.func63, Tryz.ntmps63
  go_wp2_with fail
  rw [HZ.out]
  go_loopw [4] (fun vi wr => ∃ i : Nat, i ≤ 16 ∧ vi = .int .i64 (i : Int) ∧ Hid (Blk wr w.heap.size 24 (cellsB zeroK).toArray) ∧ Hid (Blk wr (w.heap.size + 1) 24 (cellsB (saltJ i)).toArray) ∧ Below w.heap.size w wr) (fun vi _ => 16 - (intOf vi).toNat)
  case atStart => exact ⟨0, by omega, rfl, B0.out, B1.out, b0⟩
  case round =>
    obtain ⟨i, hi, rfl, HB0, HB1, hbel⟩ := hrel
    by_cases hlt : i < 16
    · have hii : (i : Int) < 16 := by omega
      have c0 := HB1.out.cell i
      rw [bytes_get _ i (by rw [saltJ_length hi]; exact hlt)] at c0
      have f0 := HB1.out.frozen i
      have HSET := Lib.hid (saltJ_set hlt)
      clear hlt
      go_wp2_with fail
      refine ⟨⟨i + 1, by omega, by go_num, HB0.out.far (p := ⟨w.heap.size + 1, i, none⟩) (by simp) _, ?_, hbel.setCell (p := ⟨w.heap.size + 1, i, none⟩) (by simp) _⟩, by simp [intOf]; omega⟩
      have h := HB1.out.set_ i (.int .u8 ((90 : UInt8).toNat : Int))
      rw [bytes_set, HSET.out] at h
      exact h
    · obtain rfl : i = 16 := by omega
      rw [saltJ_full] at HB1
      have hs1 : w.heap.size + 1 < wr.heap.size := HB1.out.lt
      have HLIT := Lib.hid (OB.lit0 wr.heap.size wr (Nat.le_refl _))
      go_wp2_with (first
        | (at_builtin; refine wpList_append_bytes _ rfl (.tmp 13) (.tmp 14) rfl wr.heap.size (some ⟨wr.heap.size, 0, none⟩) 0 0 [] rfl rfl HLIT.out A L c b HL.out rfl ((H.out.below (hbel.alloc hbel.size _)).src HL.out) (by omega) (by simp) ?_; intro A1 c1 w1 hon1 hbl1 hg1; (try simp only [Nat.zero_add]); (try simp only [List.nil_append] at hon1); have HON1 := Lib.hid hon1; have bb1 := (alloc_bel wr (.cells #[] 5)).trans hbl1; clear hon1 hg1 hbl1)
        | (go_at_call 123; refine (HPAD.out _).mono ?_; rintro e w2 ⟨⟨A2, c2, rfl, ho2⟩, hb2⟩; have HO2 := Lib.hid ho2; have bb2 := bel_on bb1 hb2; clear ho2)
        | (at_builtin; refine wpList_append_bytes _ rfl (.tmp 16) (.tmp 19) rfl wr.heap.size A1 L c1 b HL.out rfl (HON1.out.below hb2) A2 z9 c2 pt HTL.out rfl ((HO2.out.br (by rw [HTL.out]; omega)).src HTL.out) (by omega) bb2.size ?_; intro A3 c3 w3 hon3 hbl3 hg3; rw [hN]; have HON3 : Hid (OB wr.heap.size w3 A3 c3 (padB b)) := (by unfold Hid; rw [HPB.out]; exact hon3); have bb3 := bb2.trans hbl3; clear hon3 hg3 hbl3))
      have HBR3 : Hid (BR w3 A3 c3 (padB b)) := HON3.out.br (by rw [HNL.out]; omega)
      have Q0 := Lib.hid (HB0.out.below' bb3)
      have Q1 := Lib.hid (HB1.out.below' bb3)
      have hb3 := bel_on hbel bb3
      clear HTL HPB HPAD
      generalize padB b = all at HON3 HNL HDG HBR3
      have hs3 : wr.heap.size ≤ w3.heap.size := bb3.size
      go_loopw [6] (fun vi wr2 => ∃ i : Nat, i ≤ N / 16 ∧ vi = .int .i64 (i : Int) ∧ Hid (Blk wr2 w.heap.size 24 (cellsB zeroK).toArray) ∧ Hid (Blk wr2 (w.heap.size + 1) 24 (cellsB (dgN all i)).toArray) ∧ Hid (OB (w.heap.size + 1 + 1) wr2 A3 c3 all) ∧ Below w.heap.size w wr2) (fun vi _ => N / 16 - (intOf vi).toNat)
      case atStart => exact ⟨0, by omega, rfl, Q0.out, Q1.out, HON3.out.le_ (by omega), hb3⟩
      case round =>
        obtain ⟨i, hi, rfl, HP0, HP1, HO, hbel2⟩ := hrel
        by_cases hlt : i < N / 16
        · have hii : (i : Int) < ((N / 16 : Nat) : Int) := by omega
          have hi16 : 16 * i ≤ N := by omega
          have HFL : Hid ((dgN all i).length = 16) := dgN_length all i
          have HSUC : Hid (dgN all (i + 1) = xorS (encS (padK (all.drop (16 * i))) (dgN all i)) (dgN all i)) := dgN_succ all i
          have HPO : Hid (∀ W, Below wr.heap.size wr W → Calls Tryz.prog 127 #[.slice A3 N c3, .int .i64 (i : Int)] W fun e w' => e = .returned (.agg (cellsB (padK (all.drop (16 * i)))).toArray) ∧ Below W.heap.size W w') := fun W hW => portion_any A3 c3 all i W HNL.out ((HO.out.br (by rw [HNL.out]; omega)).below hW) hi16
          have HPL : Hid ((padK (all.drop (16 * i))).length = 16) := padK_length _
          generalize padK (all.drop (16 * i)) = p at HSUC HPO HPL
          generalize dgN all i = f at HSUC HP1 HFL
          have HEN : Hid (∀ W, Calls Tryz.prog 126 #[.agg (cellsB p).toArray, .agg (cellsB f).toArray] W fun e w' => e = .returned (.agg (cellsB (encS p f)).toArray) ∧ Below W.heap.size W w') := fun W => refEncrypt_any p f W HPL.out HFL.out
          have HXO : Hid (∀ W, Calls Tryz.prog 125 #[.agg (cellsB (encS p f)).toArray, .agg (cellsB f).toArray] W fun e w' => e = .returned (.agg (cellsB (xorS (encS p f) f)).toArray) ∧ Below W.heap.size W w') := fun W => refXor_any _ _ W rfl HFL.out
          have HRL : Hid ((xorS (encS p f) f).length = 16) := xorS_length _ _
          generalize xorS (encS p f) f = r at HSUC HXO HRL
          generalize encS p f = t at HEN HXO
          go_wp2_with (go_at_call 124; refine (portions_any A3 c3 N _ (by omega)).mono ?_; rintro e1 w1 ⟨rfl, rfl⟩)
          refine wp_region_last 7 (C := fun w' => ∃ x : Wd wr, w' = x.w) (by kernel_rfl) rfl (by kernel_rfl) (by kernel_rfl) (by kernel_rfl) ⟨⟨wr.drew, (Below.refl _ _).drew⟩, rfl⟩ ?_
          simp only [List.take_succ_cons, List.take_zero]
          repeat (first
            | (go_big_quiet_want; refine quiet_load_as (w.heap.size + 1) rfl 24 (cellsB f).toArray (0, 0) _ (fun _ hw => by obtain ⟨z, rfl⟩ := hw; exact HP1.out.below' z.h) under_key rfl (cellsB_size _ HFL.out) ?_; go_big_quiet_op; go_big_quiet_on)
            | go_big_quiet_step (first
              | (go_at_call 127; exact Wd.call _ (HPO.out _ (Wd.h _)))
              | (go_at_call 126; exact Wd.call _ (HEN.out _))
              | (go_at_call 125; exact Wd.call _ (HXO.out _))))
          refine wpQuiet_nil ?_
          intro _ hw'
          obtain ⟨xx, hw''⟩ := hw'
          subst hw''
          refine wpOp_store (w.heap.size + 1) (cellsB r).toArray _ _ _ rfl rfl rfl rfl rfl (HP1.out.below' xx.h) (cellsB_size _ HRL.out) (by rw [List.size_toArray, List.size_toArray, cellsB_length, cellsB_length, HFL.out, HRL.out]) (all_oneCell_toArray (cells_one r)) ?_
          have hbx := bel_on hbel2 xx.h
          have U0 := Lib.hid ((setRow_other xx.w (w.heap.size + 1) w.heap.size (cellsB r).toArray (by omega)).trans (HP0.out.below' xx.h))
          have U1 := Lib.hid ((HP1.out.below' xx.h).setRow (cellsB r).toArray)
          have UO := Lib.hid ((HO.out.below xx.h).lowR (g := w.heap.size + 1) (by omega) (cellsB r).toArray)
          have ub := below_setRow hbx (g := w.heap.size + 1) (by omega) (cellsB r).toArray
          generalize xx.w.setRow (w.heap.size + 1) (cellsB r).toArray = w9 at U0 U1 UO ub ⊢
          go_wp2_with fail
          exact ⟨⟨i + 1, by omega, by go_num, U0.out, by rw [HSUC.out]; exact U1.out, UO.out, ub⟩, by simp [intOf]; omega⟩
        · obtain rfl : i = N / 16 := by omega
          have hii : ((N / 16 : Nat) : Int) ≤ ((N / 16 : Nat) : Int) := Int.le_refl _
          have HFL : Hid ((dgN all (N / 16)).length = 16) := dgN_length all _
          generalize dgN all (N / 16) = f at HDG HP1 HFL
          have hfl : (cellsB f).length = 16 := by rw [cellsB_length, HFL.out]
          have hall := all16 f
          have hr3 : (rowAt wr w.heap.size).size = 16 := by rw [HP0.out.row]; rfl
          have hf3 := HP0.out.free
          go_wp2_with (first
            | (go_at_call 124; refine (portions_any A3 c3 N _ (by omega)).mono ?_; rintro e1 w1 ⟨rfl, rfl⟩)
            | (refine wpList_load_row rfl 24 (.tmp 3) rfl (w.heap.size + 1) rfl 24 (cellsB f).toArray (0, 0) _ HP1.out under_key rfl (cellsB_size _ HFL.out) ?_))
          exact bodyPost_ret (results_cell_row rfl _ _ w.heap.size _ _ (0, 0) _ rfl (HP0.out.setRow (cellsB f).toArray) under_key rfl (cellsB_size _ HFL.out)) rfl ⟨by rw [HDG.out], below_setRow hbel2 (by omega) _⟩
end Go.Proofs.YtinpiodfpnbllaaGreatDoor

/- Commitments: the program's and the reference's. -/
namespace Go.Proofs.YtinpiodfpnbllaaGreatDoor
open Go.RowKit
set_option linter.unusedVariables false
set_option linter.unusedSimpArgs false
attribute [local go_sem] run_storeCells_key run_storeCells_new

/-- The text of an opening. -/
def openT (half nonce : List UInt8) : List UInt8 := [2] ++ nonce ++ half
theorem openT_length (half nonce : List UInt8) (h : nonce.length = 16) : (openT half nonce).length = half.length + 17 := by simp [openT, h]; omega
theorem digS_16 (b : List UInt8) : (digS b).length = 16 := digS_length b
/-- A commitment, or the error. -/
def cmS (half nonce : List UInt8) : List UInt8 × Int := if halfB half 1 = true then (digS (openT half nonce), 0) else (zeroK, 2)
theorem cmS_length (half nonce : List UInt8) : (cmS half nonce).1.length = 16 := by
  unfold cmS
  split
  · exact digS_length _
  · rfl

set_option maxHeartbeats 4000000 in
set_option maxRecDepth 100000 in
theorem commit_any (half nonce : List UInt8) (A : Option Addr) (c : Nat) (w : World) {n : Nat} (hn : half.length = n) (hs : n ≤ 1000) (hk : nonce.length = 16) (h : BR w A c half) :
    Calls Tryz.prog 62 #[.slice A n c, .agg (cellsB nonce).toArray] w fun e w' => e = .returned (.agg (cellsB (digS (openT half nonce))).toArray) ∧ Below w.heap.size w w' := by
  have HZ := Lib.hid zero16
  have HK := Lib.hid hk
  have b0 := alloc2_bel w (.cells (cellsB nonce).toArray 24) (.cells (cellsB zeroK).toArray 24)
  have C0 := Lib.hid (blk_b0 w (cellsB nonce).toArray 24 (.cells (cellsB zeroK).toArray 24))
  have Z0 := Lib.hid (blk_b1 w (.cells (cellsB nonce).toArray 24) (cellsB zeroK).toArray 24)
  obtain ⟨W0, hW0⟩ : ∃ W, W = (w.alloc (.cells (cellsB nonce).toArray 24)).alloc (.cells (cellsB zeroK).toArray 24) := ⟨_, rfl⟩
  have hz0 : W0.heap.size = w.heap.size + 1 + 1 := by rw [hW0]; simp
  have HC : Hid (Calls Tryz.prog 122 #[.slice (some ⟨w.heap.size + 1 + 1 + 1, 0, none⟩) 3 3] ((W0.alloc (.cells #[.int .u8 2] 5)).alloc (.cells #[.slice (some ⟨w.heap.size + 1 + 1, 0, none⟩) 1 1, .slice (some ⟨w.heap.size, 0, none⟩) 16 16, .slice A n c] 22)) fun e w' => (∃ X x, e = .returned (.slice X (n + 17) x) ∧ BR w' X x (openT half nonce)) ∧ Below W0.heap.size W0 w') := by
    rw [← hW0] at b0 C0 Z0
    obtain ⟨rs, hrs⟩ : ∃ rs : List BRow, rs = [⟨some ⟨w.heap.size + 1 + 1, 0, none⟩, 1, [2]⟩, ⟨some ⟨w.heap.size, 0, none⟩, 16, nonce⟩, ⟨A, c, half⟩] := ⟨_, rfl⟩
    have hrl : rs.length = 3 := by rw [hrs]; rfl
    have hcat : catL rs 3 = openT half nonce := by rw [hrs]; simp [catL, openT]
    have hcells : (rs.map BRow.v).toArray = #[.slice (some ⟨w.heap.size + 1 + 1, 0, none⟩) 1 1, .slice (some ⟨w.heap.size, 0, none⟩) 16 16, .slice A n c] := by rw [hrs]; simp [BRow.v, hn, hk]
    rw [← hcells]
    have N1 : Blk (W0.alloc (.cells #[.int .u8 2] 5)) (w.heap.size + 1 + 1) 5 (cellsB [2]).toArray := by rw [← hz0]; exact Blk.new W0 _ _
    have N2 : Blk ((W0.alloc (.cells #[.int .u8 2] 5)).alloc (.cells (rs.map BRow.v).toArray 22)) (w.heap.size + 1 + 1 + 1) 22 (rs.map BRow.v).toArray := by
      have := Blk.new (W0.alloc (.cells #[.int .u8 2] 5)) 22 (rs.map BRow.v).toArray
      rwa [show (W0.alloc (.cells #[.int .u8 2] 5)).heap.size = w.heap.size + 1 + 1 + 1 from by simp [hz0]] at this
    have bb := alloc2_bel W0 (.cells #[.int .u8 2] 5) (.cells (rs.map BRow.v).toArray 22)
    have hRR : RR ((W0.alloc (.cells #[.int .u8 2] 5)).alloc (.cells (rs.map BRow.v).toArray 22)) (some ⟨w.heap.size + 1 + 1 + 1, 0, none⟩) 3 rs := by
      refine ⟨⟨⟨by rw [List.length_map, Nat.mul_one], by omega, by omega, by omega⟩, fun _ => ⟨w.heap.size + 1 + 1 + 1, 0, rfl, N2.lt, fun j v hv => ?_⟩⟩, fun r hr => ?_⟩
      · rw [Nat.zero_add, N2.cell j]
        simpa using hv
      · rw [hrs] at hr
        simp only [List.mem_cons, List.not_mem_nil, or_false] at hr
        rcases hr with rfl | rfl | rfl
        · exact (N1.alloc _).brn (n := 1) rfl (by omega)
        · exact (C0.out.below' bb).brn (n := 16) hk (by omega)
        · exact (h.below b0).below bb
    refine (Concat_any (some ⟨w.heap.size + 1 + 1 + 1, 0, none⟩) 3 rs _ hrl hRR (N := n + 17) (by rw [hcat, openT_length _ _ hk, hn]) (by omega) (by omega)).mono ?_
    rintro e w5 ⟨⟨A5, c5, rfl, ho5⟩, hb5⟩
    rw [hcat] at ho5
    exact ⟨⟨A5, c5, rfl, ho5.br (by rw [openT_length _ _ hk]; omega)⟩, bel_on bb hb5⟩
  have HD : Hid (∀ X x W, BR W X x (openT half nonce) → Calls Tryz.prog 121 #[.slice X (n + 17) x] W fun e w' => e = .returned (.agg (cellsB (digS (openT half nonce))).toArray) ∧ Below W.heap.size W w') := fun X x W hX => digest_any (openT half nonce) X x W (by rw [openT_length _ _ hk, hn]) hX (by omega)
  have HDL := Lib.hid (digS_length (openT half nonce))
  generalize digS (openT half nonce) = d at HD HDL ⊢
  have hdc : (cellsB d).length = 16 := by rw [cellsB_length, HDL.out]
  have hall := all16 d
  have HW0 := Lib.hid hW0
  rw [← hW0] at b0 C0 Z0
  clear hn hs hk h hW0 hz0
  go_enter Tryz.func62, Tryz.ntmps62
  go_wp2_with (first
    | (go_at_call 122; rw [HZ.out, ← HW0.out]; refine HC.out.mono ?_; rintro e w3 ⟨⟨X, x, rfl, hx⟩, hb3⟩; have HX := Lib.hid hx; have B3 := bel_on b0 hb3; have Z3 := Lib.hid (Z0.out.below' hb3); clear hx hb3)
    | (go_at_call 121; refine (HD.out _ _ _ HX.out).mono ?_; rintro e w4 ⟨rfl, hb4⟩; have B4 := bel_on B3 hb4; have Q4 := Z3.out.below' hb4; have hr1 : (rowAt w4 (w.heap.size + 1)).size = 16 := (by rw [Q4.row]; rfl); have hf1 := Q4.free; have HQ4 := Lib.hid Q4; clear Q4 hb4))
  exact bodyPost_ret (results_cell_row rfl _ _ (w.heap.size + 1) _ _ (0, 0) _ rfl (HQ4.out.setRow (cellsB d).toArray) under_key rfl (cellsB_size _ HDL.out)) rfl ⟨rfl, below_setRow B4 (by omega) _⟩

set_option maxHeartbeats 4000000 in
set_option maxRecDepth 100000 in
theorem refOpening_any (half nonce : List UInt8) (A : Option Addr) (c : Nat) (w : World) {n : Nat} (hn : half.length = n) (hs : n ≤ 1000) (hk : nonce.length = 16) (h : BR w A c half) :
    Calls Tryz.prog 64 #[.slice A n c, .agg (cellsB nonce).toArray] w fun e w' => (∃ X x, e = .returned (.slice X (n + 17) x) ∧ BR w' X x (openT half nonce)) ∧ Below w.heap.size w w' := by
  have HK := Lib.hid hk
  have HN := Lib.hid hn
  have H := Lib.hid h
  have b0 := alloc2_bel w (.cells (cellsB nonce).toArray 24) (.cells (cellsB [2]).toArray 5)
  have C0 := Lib.hid (blk_b0 w (cellsB nonce).toArray 24 (.cells (cellsB [2]).toArray 5))
  have O0 : Hid (OB (w.heap.size + 1) ((w.alloc (.cells (cellsB nonce).toArray 24)).alloc (.cells (cellsB [2]).toArray 5)) (some ⟨w.heap.size + 1, 0, none⟩) 1 [2]) := by
    have := OB.lit (w.heap.size + 1) (w.alloc (.cells (cellsB nonce).toArray 24)) [2] (by simp) (by simp) (n := 1) rfl
    rw [World.size_alloc] at this
    exact this
  have HL : Hid (#[Value.int .u8 2] = (cellsB [2]).toArray) := rfl
  have HAL : Hid ((([2] : List UInt8) ++ nonce).length = 17) := by unfold Hid; simp [hk]
  have HOT : Hid ((openT half nonce).length = n + 17) := by unfold Hid; rw [openT_length _ _ hk, hn]
  have HE : Hid ([2] ++ nonce ++ half = openT half nonce) := rfl
  clear hn hk h
  go_enter Tryz.func64, Tryz.ntmps64
  go_wp2_with (first
    | (at_builtin; rw [HL.out]; refine wpList_append_bytes _ rfl (.tmp 6) (.tmp 7) rfl (w.heap.size + 1) (some ⟨w.heap.size + 1, 0, none⟩) 1 1 [2] rfl rfl O0.out (some ⟨w.heap.size, 0, none⟩) 16 16 nonce HK.out rfl ((C0.out.brn (n := 16) HK.out (by omega)).src HK.out) (by omega) (by simp) ?_; intro A5 c5 w5 hon5 hbl5 hg5; have O5 := Lib.hid hon5; have b5 := Lib.hid (b0.trans (hbl5.mono (by omega))); have HZ5 := Lib.hid (Nat.le_trans (show w.heap.size + 1 ≤ ((w.alloc (.cells (cellsB nonce).toArray 24)).alloc (.cells (cellsB [2]).toArray 5)).heap.size by simp) hbl5.size); clear hon5 hg5 hbl5)
    | (at_builtin; refine wpList_append_bytes _ rfl (.tmp 9) (.tmp 10) rfl (w.heap.size + 1) A5 17 c5 ([2] ++ nonce) HAL.out rfl O5.out A n c half HN.out rfl ((H.out.below b5.out).src HN.out) (by omega) HZ5.out ?_; intro A6 c6 w6 hon6 hbl6 hg6; have O6 := Lib.hid hon6; have b6 := b5.out.trans (hbl6.mono (by omega)); clear hon6 hg6 hbl6))
  go_ret
  refine ⟨⟨A6, c6, ?_, ?_⟩, b6⟩
  · show Ending.returned _ = _
    rw [Nat.add_comm n 17]; rfl
  · have := O6.out
    rw [HE.out] at this
    exact this.br (by rw [HOT.out]; omega)

set_option maxHeartbeats 4000000 in
set_option maxRecDepth 100000 in
theorem Commit_any (half nonce : List UInt8) (A : Option Addr) (c : Nat) (w : World) {n : Nat} (hn : half.length = n) (hk : nonce.length = 16) (h : BR w A c half) :
    Calls Tryz.prog 18 #[.slice A n c, .agg (cellsB nonce).toArray] w fun e w' => e = .returned (.tuple #[.agg (cellsB (cmS half nonce).1).toArray, .int .i64 (cmS half nonce).2]) ∧ Below w.heap.size w w' := by
  have HZ := Lib.hid zero16
  have HK := Lib.hid hk
  have b0 := alloc2_bel w (.cells (cellsB nonce).toArray 24) (.cells (cellsB zeroK).toArray 24)
  have C0 := Lib.hid (blk_b0 w (cellsB nonce).toArray 24 (.cells (cellsB zeroK).toArray 24))
  have Z0 := Lib.hid (blk_b1 w (.cells (cellsB nonce).toArray 24) (cellsB zeroK).toArray 24)
  have HS1 : Hid (∀ W, Below w.heap.size w W → Calls Tryz.prog 61 #[.slice A n c, .int .u8 1] W fun e w' => e = .returned (.bool (halfB half 1)) ∧ W = w') := fun W hW => auditSyms_any A c half 1 W hn (h.below hW) (by omega)
  cases hv : halfB half 1 with
  | false =>
    have HS : Hid (cmS half nonce = (zeroK, 2)) := by unfold Hid cmS; rw [hv]; rfl
    rw [hv] at HS1
    have hdc : (cellsB zeroK).length = 16 := rfl
    have hall := all16 zeroK
    have Q1 := Z0.out
    have hr1 : (rowAt ((w.alloc (.cells (cellsB nonce).toArray 24)).alloc (.cells (cellsB zeroK).toArray 24)) (w.heap.size + 1)).size = 16 := by rw [Q1.row]; rfl
    have hf1 := Q1.free
    clear hn hk h hv Q1
    go_enter Tryz.func18, Tryz.ntmps18
    go_wp2_with (first
      | (go_at_call 61; rw [HZ.out]; refine (HS1.out _ b0).mono ?_; rintro e w1 ⟨rfl, rfl⟩)
      | ((first | rw [HZ.out] | skip); refine wpList_buildTo rfl 24 #[] rfl (some 9) rfl (cellsB zeroK).toArray (by kernel_rfl) ?_))
    refine bodyPost_ret (v := .tuple #[.agg (cellsB zeroK).toArray, .int .i64 2]) ?_ rfl ⟨by rw [HS.out], below_setRow b0 (by omega) _⟩
    rw [results_cell_tmp Tryz.results18]
    simp [asAddr, Result.andThen, run_loadVar_row _ (w.heap.size + 1) _ _ _ (0, 0) _ (Z0.out.setRow (cellsB zeroK).toArray) under_key rfl (cellsB_size _ rfl)]
  | true =>
    have hl : n ≤ 64 := by rw [← hn]; exact (halfB_iff.1 hv).1.2
    have HS : Hid (cmS half nonce = (digS (openT half nonce), 0)) := by unfold Hid cmS; rw [if_pos hv]
    rw [hv] at HS1
    have HD : Hid (∀ W, Below w.heap.size w W → Calls Tryz.prog 62 #[.slice A n c, .agg (cellsB nonce).toArray] W fun e w' => e = .returned (.agg (cellsB (digS (openT half nonce))).toArray) ∧ Below W.heap.size W w') := fun W hW => commit_any half nonce A c W hn (by omega) hk (h.below hW)
    have HDL := Lib.hid (digS_length (openT half nonce))
    generalize digS (openT half nonce) = d at HD HDL HS
    have hdc : (cellsB d).length = 16 := by rw [cellsB_length, HDL.out]
    have hall := all16 d
    clear hn hk h hv hl
    go_enter Tryz.func18, Tryz.ntmps18
    go_wp2_with (first
      | (go_at_call 61; rw [HZ.out]; refine (HS1.out _ b0).mono ?_; rintro e w1 ⟨rfl, rfl⟩)
      | ((first | rw [HZ.out] | skip); refine wpList_load_row rfl 24 (.tmp 3) rfl w.heap.size rfl 24 (cellsB nonce).toArray (0, 0) _ C0.out under_key rfl (cellsB_size _ HK.out) ?_)
      | (go_at_call 62; refine (HD.out _ b0).mono ?_; rintro e w2 ⟨rfl, hb2⟩; have b2 := bel_on b0 hb2; have Q2 := Z0.out.below' hb2; have hr1 : (rowAt w2 (w.heap.size + 1)).size = 16 := (by rw [Q2.row]; rfl); have hf1 := Q2.free; have HQ2 := Lib.hid Q2; clear Q2 hb2))
    refine bodyPost_ret (v := .tuple #[.agg (cellsB d).toArray, .int .i64 0]) ?_ rfl ⟨by rw [HS.out], below_setRow b2 (by omega) _⟩
    rw [results_cell_tmp Tryz.results18]
    simp [asAddr, Result.andThen, run_loadVar_row _ (w.heap.size + 1) _ _ _ (0, 0) _ (HQ2.out.setRow (cellsB d).toArray) under_key rfl (cellsB_size _ HDL.out)]

set_option maxHeartbeats 4000000 in
set_option maxRecDepth 100000 in
theorem refCommit_any (half nonce : List UInt8) (A : Option Addr) (c : Nat) (w : World) {n : Nat} (hn : half.length = n) (hk : nonce.length = 16) (h : BR w A c half) :
    Calls Tryz.prog 19 #[.slice A n c, .agg (cellsB nonce).toArray] w fun e w' => e = .returned (.tuple #[.agg (cellsB (cmS half nonce).1).toArray, .int .i64 (cmS half nonce).2]) ∧ Below w.heap.size w w' := by
  have HZ := Lib.hid zero16
  have HK := Lib.hid hk
  have b0 := alloc2_bel w (.cells (cellsB nonce).toArray 24) (.cells (cellsB zeroK).toArray 24)
  have C0 := Lib.hid (blk_b0 w (cellsB nonce).toArray 24 (.cells (cellsB zeroK).toArray 24))
  have Z0 := Lib.hid (blk_b1 w (.cells (cellsB nonce).toArray 24) (cellsB zeroK).toArray 24)
  have HS1 : Hid (∀ W, Below w.heap.size w W → Calls Tryz.prog 33 #[.slice A n c] W fun e w' => e = .returned (.bool (halfB half 1)) ∧ W = w') := fun W hW => isHalf_any A c half W hn (h.below hW)
  cases hv : halfB half 1 with
  | false =>
    have HS : Hid (cmS half nonce = (zeroK, 2)) := by unfold Hid cmS; rw [hv]; rfl
    rw [hv] at HS1
    have hdc : (cellsB zeroK).length = 16 := rfl
    have hall := all16 zeroK
    have Q1 := Z0.out
    have hr1 : (rowAt ((w.alloc (.cells (cellsB nonce).toArray 24)).alloc (.cells (cellsB zeroK).toArray 24)) (w.heap.size + 1)).size = 16 := by rw [Q1.row]; rfl
    have hf1 := Q1.free
    clear hn hk h hv Q1
    go_enter Tryz.func19, Tryz.ntmps19
    go_wp2_with (first
      | (go_at_call 33; rw [HZ.out]; refine (HS1.out _ b0).mono ?_; rintro e w1 ⟨rfl, rfl⟩)
      | ((first | rw [HZ.out] | skip); refine wpList_buildTo rfl 24 #[] rfl (some 9) rfl (cellsB zeroK).toArray (by kernel_rfl) ?_))
    refine bodyPost_ret (v := .tuple #[.agg (cellsB zeroK).toArray, .int .i64 2]) ?_ rfl ⟨by rw [HS.out], below_setRow b0 (by omega) _⟩
    rw [results_cell_tmp Tryz.results19]
    simp [asAddr, Result.andThen, run_loadVar_row _ (w.heap.size + 1) _ _ _ (0, 0) _ (Z0.out.setRow (cellsB zeroK).toArray) under_key rfl (cellsB_size _ rfl)]
  | true =>
    have hl : n ≤ 64 := by rw [← hn]; exact (halfB_iff.1 hv).1.2
    have HS : Hid (cmS half nonce = (digS (openT half nonce), 0)) := by unfold Hid cmS; rw [if_pos hv]
    rw [hv] at HS1
    have HO : Hid (∀ W, Below w.heap.size w W → Calls Tryz.prog 64 #[.slice A n c, .agg (cellsB nonce).toArray] W fun e w' => (∃ X x, e = .returned (.slice X (n + 17) x) ∧ BR w' X x (openT half nonce)) ∧ Below W.heap.size W w') := fun W hW => refOpening_any half nonce A c W hn (by omega) hk (h.below hW)
    have HD : Hid (∀ X x W, BR W X x (openT half nonce) → Calls Tryz.prog 63 #[.slice X (n + 17) x] W fun e w' => e = .returned (.agg (cellsB (digS (openT half nonce))).toArray) ∧ Below W.heap.size W w') := fun X x W hX => refDigest_any (openT half nonce) X x W (by rw [openT_length _ _ hk, hn]) hX (by omega)
    have HDL := Lib.hid (digS_length (openT half nonce))
    generalize digS (openT half nonce) = d at HD HDL HS
    have hdc : (cellsB d).length = 16 := by rw [cellsB_length, HDL.out]
    have hall := all16 d
    clear hn hk h hv hl
    go_enter Tryz.func19, Tryz.ntmps19
    go_wp2_with (first
      | (go_at_call 33; rw [HZ.out]; refine (HS1.out _ b0).mono ?_; rintro e w1 ⟨rfl, rfl⟩)
      | ((first | rw [HZ.out] | skip); refine wpList_load_row rfl 24 (.tmp 3) rfl w.heap.size rfl 24 (cellsB nonce).toArray (0, 0) _ C0.out under_key rfl (cellsB_size _ HK.out) ?_)
      | (go_at_call 64; refine (HO.out _ b0).mono ?_; rintro e w2 ⟨⟨X, x, rfl, hx⟩, hb2⟩; have b2 := bel_on b0 hb2; have Z2 := Lib.hid (Z0.out.below' hb2); have HX := Lib.hid hx; clear hx hb2)
      | (go_at_call 63; refine (HD.out _ _ _ HX.out).mono ?_; rintro e w3 ⟨rfl, hb3⟩; have b3 := bel_on b2 hb3; have Q3 := Z2.out.below' hb3; have hr1 : (rowAt w3 (w.heap.size + 1)).size = 16 := (by rw [Q3.row]; rfl); have hf1 := Q3.free; have HQ3 := Lib.hid Q3; clear Q3 hb3))
    refine bodyPost_ret (v := .tuple #[.agg (cellsB d).toArray, .int .i64 0]) ?_ rfl ⟨by rw [HS.out], below_setRow b3 (by omega) _⟩
    rw [results_cell_tmp Tryz.results19]
    simp [asAddr, Result.andThen, run_loadVar_row _ (w.heap.size + 1) _ _ _ (0, 0) _ (HQ3.out.setRow (cellsB d).toArray) under_key rfl (cellsB_size _ HDL.out)]
end Go.Proofs.YtinpiodfpnbllaaGreatDoor
