/-
  The reference's bytes, words and blocks.
-/
import Derived.Test.YtinpiodfpnbllaaSpeckWalks
import Derived.Test.YtinpiodfpnbllaaRowsOwn
namespace Go.Proofs.Ytinpiodfpnbllaa
open Go.RowKit
set_option linter.unusedVariables false

theorem mul_add_u8 (x : UInt64) (c : UInt8) : IntKind.u64.wrap (IntKind.u64.wrap (256 * (x.toNat : Int)) + (c.toNat : Int)) = ((256 * x + c.toUInt64).toNat : Int) := by
  rw [u64_mul256, show (c.toNat : Int) = (c.toUInt64.toNat : Int) from by rw [UInt8.toNat_toUInt64], u64_add]
theorem mul_add_u8m (x : UInt64) (c : UInt8) : (256 * (x.toNat : Int) + (c.toNat : Int)) % 18446744073709551616 = ((256 * x + c.toUInt64).toNat : Int) := by
  rw [UInt64.toNat_add, UInt64.toNat_mul, UInt8.toNat_toUInt64, show (256 : UInt64).toNat = 256 from rfl]
  omega
theorem wd_take_succ' {l : List UInt8} {k : Nat} (h : k < l.length) : wd (l.take (k + 1)) = 256 * wd (l.take k) + (l.getD k 0).toUInt64 := by
  rw [List.take_succ_eq_append_getElem h, wd_snoc]
  simp [List.getD, List.getElem?_eq_getElem h]

set_option maxHeartbeats 1000000 in
theorem refValue_any (A : Option Addr) (c : Nat) (l : List UInt8) (w : World) {n : Nat} (hn : l.length = n) (h : BR w A c l) : Calls Try.prog 146 #[.slice A n c] w fun e w' => e = .returned (.int .u64 ((wd l).toNat : Int)) ∧ w = w' := by
  have hlen : (n : Int) ≤ 140737488351232 := by have := h.len; omega
  have HN := Lib.hid hn
  have H := Lib.hid h
  clear hn h
  go_enter Try.func146, Try.ntmps146
  go_wp2_with fail
  go_loop [3, 4] (fun vx vk => ∃ (k : Nat) (x : UInt64), k ≤ n ∧ vk = .int .i64 k ∧ vx = .int .u64 (x.toNat : Int) ∧ Hid (x = wd (l.take k))) (fun _ vk => n - (intOf vk).toNat)
  case atStart => exact ⟨0, 0, by omega, rfl, rfl, rfl⟩
  case round =>
    obtain ⟨k, x, hk, rfl, rfl, HX⟩ := hrel
    by_cases hkn : k < n
    · obtain ⟨b, off, rfl, hb, hc⟩ := H.out.at_ (i := k) (by have := HN.out; omega)
      have HS := Lib.hid (wd_take_succ' (l := l) (k := k) (by have := HN.out; omega))
      unfold bt at hc
      generalize l.getD k 0 = v at *
      have hv : (v.toNat : Int) ≤ 255 := by have := v.toNat_lt; omega
      have hx := u64_bd x
      go_wp2_with fail
      go_round
      case rel => exact ⟨k + 1, 256 * x + v.toUInt64, by omega, by go_num, by first | rw [mul_add_u8] | rw [mul_add_u8m] | skip, by unfold Hid; rw [HS.out, HX.out]⟩
      case measure => simp [intOf]; omega
    · have HT : Hid (l.take k = l) := List.take_of_length_le (by have := HN.out; omega)
      rw [HT.out] at HX
      go_wp2_with fail
      go_ret
      exact ⟨by rw [HX.out]; rfl, rfl⟩

/-- A part of a key in a block, as bytes. -/
theorem Blk.br {w : World} {g : Nat} {t : TypeId} {b : List UInt8} (h : Blk w g t (cellsB b).toArray) (o n c : Nat) (hn : o + n ≤ b.length) (hc : n ≤ c) (hc2 : c ≤ 100) : BR w (some ⟨g, o, none⟩) c ((b.drop o).take n) := by
  have hl : ((b.drop o).take n).length = n := by rw [List.length_take, List.length_drop]; omega
  refine ⟨⟨by simp [cellsB], by omega, by omega, by omega⟩, fun _ => ⟨g, o, rfl, h.lt, fun j v hv => ?_⟩⟩
  rw [h.cell]
  have hj : j < n := by
    rcases Nat.lt_or_ge j n with h' | h'
    · exact h'
    · rw [List.getElem?_eq_none (by rw [cellsB_length, hl]; exact h')] at hv; cases hv
  rw [← hv]
  simp [cellsB, List.getElem?_take, hj, List.getElem?_drop]
set_option maxHeartbeats 1000000 in
theorem refWords_key (b : List UInt8) (w : World) (hb : b.length = 16) : Calls Try.prog 115 #[.agg (cellsB b).toArray] w fun e w' => e = .returned (.tuple #[.int .u64 ((wds b).1.toNat : Int), .int .u64 ((wds b).2.toNat : Int)]) ∧ Below w.heap.size w w' := by
  have hbl : (cellsB b).length = 16 := by rw [cellsB_length, hb]
  have hB := Blk.new w 23 (cellsB b).toArray
  have H1 := Lib.hid (hB.br 0 8 16 (by omega) (by omega) (by omega))
  have H2 := Lib.hid (hB.br 8 8 8 (by omega) (by omega) (by omega))
  have L1 : Hid (((b.drop 0).take 8).length = 8) := by unfold Hid; simp; omega
  have L2 : Hid (((b.drop 8).take 8).length = 8) := by unfold Hid; simp; omega
  have HE : Hid (wd ((b.drop 0).take 8) = (wds b).1 ∧ wd ((b.drop 8).take 8) = (wds b).2) := by
    refine ⟨rfl, ?_⟩
    rw [List.take_of_length_le (by simp; omega)]
    rfl
  obtain ⟨W1, hW1⟩ : ∃ W : World, W = w.alloc (.cells (cellsB b).toArray 23) := ⟨_, rfl⟩
  have b1 : Below w.heap.size w W1 := by rw [hW1]; exact alloc_bel _ _
  rw [← hW1] at H1 H2
  have HW := Lib.hid hW1
  clear hb hB hW1
  go_enter Try.func115, Try.ntmps115
  go_wp2_with fail
  rw [← HW.out]
  go_quiet ((first | (go_at_call 146; exact quiet_left' (refValue_any _ _ _ _ L1.out (H1.out.drewN _))) | (go_at_call 146; exact quiet_left' (refValue_any _ _ _ _ L2.out (H2.out.drewN _)))))
  go_wp2_with fail
  go_ret2
  exact ⟨by rw [HE.out.1, HE.out.2]; rfl, below_drewN b1 _⟩

/-- The lowest bytes of a word, the highest first. -/
def bysN (n : UInt64) : Nat → List UInt8
  | 0 => []
  | i + 1 => (n >>> UInt64.ofNat (8 * i)).toUInt8 :: bysN n i
theorem bysN_length (n : UInt64) (i : Nat) : (bysN n i).length = i := by
  induction i with
  | zero => rfl
  | succ i ih => rw [bysN, List.length_cons, ih]
theorem bysN_8 (n : UInt64) : bysN n 8 = by8 n := by
  have e : (n >>> UInt64.ofNat (8 * 0)) = n := by simp
  simp only [bysN, e]
  rfl
theorem by8_split (n : UInt64) : by8 n = (n >>> 56).toUInt8 :: bysN n 7 := by rw [← bysN_8]; rfl
/-- The number that is left after i bytes. -/
theorem shr_div (n : UInt64) (i : Nat) (hi : i < 8) : (n >>> UInt64.ofNat (8 * i)).toNat = n.toNat / 256 ^ i := by
  rw [toNat_shr _ _ (by omega), Nat.pow_mul]
theorem byte_mod (n : UInt64) (i : Nat) (hi : i < 8) {m : Nat} (hm : m = n.toNat / 256 ^ i) : ((m : Nat) : Int) % 256 = (((n >>> UInt64.ofNat (8 * i)).toUInt8.toNat : Nat) : Int) := by
  rw [UInt64.toNat_toUInt8, shr_div n i hi, ← hm]
  omega

set_option maxHeartbeats 1000000 in
theorem refBytes_any (n : UInt64) (size : Nat) (w : World) (hs : size ≤ 8) : Calls Try.prog 138 #[.int .u64 (n.toNat : Int), .int .i64 (size : Int)] w fun e w' => ∃ A c, e = .returned (.slice A size c) ∧ OB w.heap.size w' A c (bysN n size) ∧ Below w.heap.size w w' := by
  have hsi : (size : Int) ≤ 8 := by omega
  have hn := u64_bd n
  have HS := Lib.hid hs
  clear hs
  go_enter Try.func138, Try.ntmps138
  go_wp2_with fail
  go_loopw [0, 5, 6] (fun vn vo vi wr => ∃ (i m : Nat) (A : Option Addr) (c : Nat), i ≤ size ∧ vi = .int .i64 (i : Int) ∧ vn = .int .u64 (m : Int) ∧ (m : Int) ≤ 18446744073709551615 ∧ Hid (m = n.toNat / 256 ^ i) ∧ vo = .slice A i c ∧ Hid (OB w.heap.size wr A c (bysN n i)) ∧ Below w.heap.size w wr) (fun _ _ vi _ => size - (intOf vi).toNat)
  case atStart => exact ⟨0, n.toNat, none, 0, by omega, rfl, rfl, hn, by simp [Hid], rfl, OB.nil' _ _, Below.refl _ _⟩
  case round =>
    obtain ⟨i, m, A, c, hi, rfl, rfl, hm, HM, rfl, HO, hbel⟩ := hrel
    by_cases hlt : i < size
    · have hii : (i : Int) < size := by omega
      have HB := Lib.hid (byte_mod n i (by have := HS.out; omega) HM.out)
      have HD : Hid (((m : Nat) : Int) / 256 = ((m / 256 : Nat) : Int)) := by unfold Hid; omega
      have HM2 : Hid (m / 256 = n.toNat / 256 ^ (i + 1)) := by unfold Hid; rw [HM.out, Nat.div_div_eq_div_mul, Nat.pow_succ]
      have HMB : Hid (((m / 256 : Nat) : Int) ≤ 18446744073709551615) := by unfold Hid; omega
      obtain ⟨v, hv⟩ : ∃ v, (n >>> UInt64.ofNat (8 * i)).toUInt8 = v := ⟨_, rfl⟩
      have HV : Hid (bysN n (i + 1) = v :: bysN n i) := by unfold Hid; rw [bysN, hv]
      rw [hv] at HB
      clear hv
      have HLE := Lib.hid (bysN_length n i)
      go_wp2_with (at_builtin; rw [HB.out]; go_loud (refine wpList_append_bytes _ rfl (.tmp 15) (.tmp 16) rfl w.heap.size (some ⟨wr.heap.size, 0, none⟩) 1 1 [v] rfl rfl (OB.lit w.heap.size wr [v] hbel.size (by simp) rfl) A i c (bysN n i) HLE.out rfl (((HO.out.br (by have := HLE.out; omega)).below (alloc_bel _ _)).src HLE.out) (by omega) (by have := hbel.size; simp; omega) ?_); intro A1 c1 w1 hon1 hbl1 hg1; clear hg1; have HON1 := Lib.hid hon1; clear hon1)
      rw [HD.out]
      go_roundw
      case rel => exact ⟨i + 1, m / 256, A1, c1, by omega, by go_num, rfl, HMB.out, HM2, by rw [Nat.add_comm], by rw [HV.out]; exact HON1.out, (hbel.alloc hbel.size _).trans hbl1⟩
      case measure => simp [intOf]; omega
    · obtain rfl : i = size := by omega
      go_wp2_with fail
      go_ret
      exact ⟨A, c, rfl, HO.out, hbel⟩

/-- The first 16 bytes, zeros where there are none. -/
def padK (l : List UInt8) : List UInt8 := (List.range 16).map fun i => l.getD i 0
theorem padK_length (l : List UInt8) : (padK l).length = 16 := by simp [padK]
theorem padK_16 {l : List UInt8} (h : l.length = 16) : padK l = l := by
  match l, h with
  | [_, _, _, _, _, _, _, _, _, _, _, _, _, _, _, _], _ => rfl
/-- .. after k bytes. -/
def padS (l : List UInt8) (k : Nat) : List UInt8 := (List.range 16).map fun i => if i < k then l.getD i 0 else 0
theorem padS_length (l : List UInt8) (k : Nat) : (padS l k).length = 16 := by simp [padS]
theorem padS_step (l : List UInt8) (k : Nat) (hk : k < 16) : (padS l k).set k (l.getD k 0) = padS l (k + 1) := by
  refine List.ext_getElem (by simp [padS]) fun i h1 h2 => ?_
  simp only [padS, List.getElem_set, List.getElem_map, List.getElem_range]
  by_cases h : k = i
  · subst h; simp
  · rw [if_neg h]
    by_cases h3 : i < k
    · rw [if_pos h3, if_pos (by omega)]
    · rw [if_neg h3, if_neg (by omega)]
theorem padS_fin (l : List UInt8) (k : Nat) (hk : k = 16 ∨ l.length ≤ k) : padS l k = padK l := by
  refine List.ext_getElem (by simp [padS, padK]) fun i h1 h2 => ?_
  simp only [padS, padK, List.getElem_map, List.getElem_range]
  have hi : i < 16 := by simpa [padS] using h1
  by_cases h : i < k
  · rw [if_pos h]
  · rw [if_neg h]
    rcases hk with hk | hk
    · omega
    · simp [List.getD, List.getElem?_eq_none (show l.length ≤ i by omega)]
set_option maxHeartbeats 1000000 in
theorem refKey_any (A : Option Addr) (c : Nat) (l : List UInt8) (w : World) {n : Nat} (hn : l.length = n) (h : BR w A c l) : Calls Try.prog 145 #[.slice A n c] w fun e w' => e = .returned (.agg (cellsB (padK l)).toArray) ∧ Below w.heap.size w w' := by
  have hlen : (n : Int) ≤ 140737488351232 := by have := h.len; omega
  have HN := Lib.hid hn
  have H := Lib.hid h
  have HZ := Lib.hid zero16
  clear hn h
  go_enter Try.func145, Try.ntmps145
  go_wp2_with fail
  rw [HZ.out]
  go_loopw [4] (fun vk wr => ∃ k : Nat, k ≤ 16 ∧ k ≤ n ∧ vk = .int .i64 (k : Int) ∧ Blk wr w.heap.size 23 (cellsB zeroK).toArray ∧ Blk wr (w.heap.size + 1) 23 (cellsB (padS l k)).toArray ∧ Below w.heap.size w wr) (fun vk _ => 16 - (intOf vk).toNat)
  case atStart => exact ⟨0, by omega, by omega, rfl, blk_b0 _ _ _ _, blk_b1 _ _ _ _, alloc2_bel _ _ _⟩
  case round =>
    obtain ⟨k, hk, hkn, rfl, hB1, hB2, hbel⟩ := hrel
    by_cases h1 : k < 16 ∧ k < n
    · obtain ⟨h1, h2⟩ := h1
      obtain ⟨b, off, rfl, hb, hc⟩ := (H.out.below hbel).at_ (i := k) (by have := HN.out; omega)
      have HS := Lib.hid (padS_step l k h1)
      unfold bt at hc
      generalize l.getD k 0 = v at *
      have d0 := (hB2.cell k).trans (bytes_get _ k (by rw [padS_length]; omega))
      have f0 := hB2.frozen k
      have hki : (k : Int) < n := by omega
      have hki2 : (k : Int) < 16 := by omega
      have HB3 : Hid (Blk (wr.setCell ⟨w.heap.size + 1, k, none⟩ (.int .u8 (v.toNat : Int))) (w.heap.size + 1) 23 (cellsB (padS l (k + 1))).toArray) := by
        have := hB2.set_ k (.int .u8 (v.toNat : Int))
        rw [bytes_set, HS.out] at this
        exact this
      go_wp2_with fail
      go_roundw
      case rel => exact ⟨k + 1, by omega, by omega, by go_num, hB1.far (p := ⟨w.heap.size + 1, k, none⟩) (by simp) _, HB3.out, hbel.setCell (p := ⟨w.heap.size + 1, k, none⟩) (by simp) _⟩
      case measure => simp [intOf]; omega
    · have HF : Hid (padS l k = padK l) := padS_fin l k (by have := HN.out; omega)
      rw [HF.out] at hB2
      have hL := padK_length l
      have HB1 := Lib.hid hB1
      by_cases h16 : k < 16
      · obtain rfl : k = n := by omega
        go_wp2_with (first
          | (refine wpList_load_row rfl 23 (.tmp 3) rfl (w.heap.size + 1) rfl 23 (cellsB (padK l)).toArray (0, 0) _ hB2 under_key rfl (cellsB_size _ hL) ?_)
          | (refine wpList_store_row rfl 23 (.tmp 2) (.tmp 21) rfl w.heap.size (cellsB (padK l)).toArray rfl rfl 23 (cellsB zeroK).toArray HB1.out (cellsB_size _ hL) (cellsB_sizes _ _ zeroK_length hL) (cellsB_all _) ?_))
        exact bodyPost_ret (results_cell_row rfl _ _ w.heap.size _ _ (0, 0) _ rfl (HB1.out.setRow (cellsB (padK l)).toArray) under_key rfl (cellsB_size _ hL)) rfl ⟨rfl, below_setRow hbel (Nat.le_refl _) _⟩
      · obtain rfl : k = 16 := by omega
        go_wp2_with (first
          | (refine wpList_load_row rfl 23 (.tmp 3) rfl (w.heap.size + 1) rfl 23 (cellsB (padK l)).toArray (0, 0) _ hB2 under_key rfl (cellsB_size _ hL) ?_)
          | (refine wpList_store_row rfl 23 (.tmp 2) (.tmp 21) rfl w.heap.size (cellsB (padK l)).toArray rfl rfl 23 (cellsB zeroK).toArray HB1.out (cellsB_size _ hL) (cellsB_sizes _ _ zeroK_length hL) (cellsB_all _) ?_))
        exact bodyPost_ret (results_cell_row rfl _ _ w.heap.size _ _ (0, 0) _ rfl (HB1.out.setRow (cellsB (padK l)).toArray) under_key rfl (cellsB_size _ hL)) rfl ⟨rfl, below_setRow hbel (Nat.le_refl _) _⟩
end Go.Proofs.Ytinpiodfpnbllaa
