/-
  The stream of a key: the program's.
-/
import Derived.Test.YtinpiodfpnbllaaMadeBytes
import Derived.Test.YtinpiodfpnbllaaSpeckDer
import Derived.Test.YtinpiodfpnbllaaFrameMem
namespace Go.Proofs.Ytinpiodfpnbllaa
open Go.RowKit
set_option linter.unusedVariables false
attribute [local go_sem] run_storeCells_key

/-- A byte of the stream xor a byte; the stream xor some bytes, or the error. -/
def stB1 (k : List UInt8) (n : UInt64) (b : List UInt8) (i : Nat) : UInt8 := b.getD i 0 ^^^ (encS k (tagS 1 (UInt64.ofNat (i / 16)) n)).getD (i % 16) 0
def streamS (k : List UInt8) (n : UInt64) (b : List UInt8) : List UInt8 := (List.range b.length).map (stB1 k n b)
def stP (k : List UInt8) (n : UInt64) (b : List UInt8) (i : Nat) : List UInt8 := (List.range b.length).map fun j => if j < i then stB1 k n b j else 0
def strR (k : List UInt8) (n : UInt64) (b : List UInt8) : List UInt8 × Int := if 16384 < b.length then ([], 4) else (streamS k n b, 0)
theorem streamS_length (k : List UInt8) (n : UInt64) (b : List UInt8) : (streamS k n b).length = b.length := by simp [streamS]
theorem stP_length (k : List UInt8) (n : UInt64) (b : List UInt8) (i : Nat) : (stP k n b i).length = b.length := by simp [stP]
theorem stP_zero (k : List UInt8) (n : UInt64) (b : List UInt8) : stP k n b 0 = List.replicate b.length 0 := by
  refine List.ext_getElem (by simp [stP]) fun i h1 h2 => ?_
  simp [stP]
theorem stP_fin (k : List UInt8) (n : UInt64) (b : List UInt8) : stP k n b b.length = streamS k n b := by
  refine List.ext_getElem (by simp [stP, streamS]) fun i h1 h2 => ?_
  have : i < b.length := by simpa [stP] using h1
  simp [stP, streamS, this]
theorem stP_set {k : List UInt8} {n : UInt64} {b : List UInt8} {i : Nat} (hi : i < b.length) : (stP k n b i).set i (stB1 k n b i) = stP k n b (i + 1) := by
  refine List.ext_getElem (by simp [stP]) fun j h1 h2 => ?_
  simp only [stP, List.getElem_set, List.getElem_map, List.getElem_range]
  by_cases e : i = j
  · subst e; simp
  · rw [if_neg e]
    have : (j < i) ↔ (j < i + 1) := by omega
    simp [this]
theorem xor_u8 (a b : UInt8) : bits .xor .u8 (a.toNat : Int) (b.toNat : Int) = ((a ^^^ b).toNat : Int) := by
  rw [u8_xor_nat _ _ a.toNat_lt b.toNat_lt, UInt8.toNat_xor]
theorem wrap_sixteenth {i : Nat} (h : i < 20000) : IntKind.u64.wrap (IntKind.i64.wrap ((i : Int) / (16 : Int))) = ((UInt64.ofNat (i / 16)).toNat : Int) := by
  rw [UInt64.toNat_ofNat', Nat.mod_eq_of_lt (by omega), IntKind.wrap_i64, IntKind.wrap_u64]
  omega

set_option maxHeartbeats 2000000 in
set_option maxRecDepth 100000 in
theorem Stream_any (k : List UInt8) (n : UInt64) (A : Option Addr) (c : Nat) (b : List UInt8) (w : World) {L : Nat} (hL : b.length = L) (h : BR w A c b) (hk : k.length = 16) :
    Calls Try.prog 52 #[.agg (cellsB k).toArray, .int .u64 (n.toNat : Int), .slice A L c] w fun e w' => BytesErr w.heap.size (strR k n b) e w' ∧ Below w.heap.size w w' := by
  have hl0 : (L : Int) ≤ 140737488351232 := by have := h.len; omega
  have HL := Lib.hid hL
  have H := Lib.hid h
  have HK := Lib.hid hk
  have b0 := alloc_bel w (.cells (cellsB k).toArray 23)
  have HZ := Lib.hid zero16
  by_cases hbig : 16384 < L
  · have hbi : (16384 : Int) < L := by omega
    have HS : Hid (strR k n b = ([], 4)) := by unfold Hid strR; rw [if_pos (by omega)]
    clear hL h hk hbig
    go_enter Try.func52, Try.ntmps52
    go_wp2_with fail
    go_ret2
    exact ⟨bytesErr_nil _ _ _ HS.out, b0⟩
  · have hbi : (L : Int) ≤ 16384 := by omega
    have HS : Hid (strR k n b = (streamS k n b, 0)) := by unfold Hid strR; rw [if_neg (by omega)]
    have hkl : (cellsB k).length = 16 := by rw [cellsB_length, hk]
    have hmk := run_make_row' (P := Try.prog) 24 5 (.int .u8 0) 1 Try.underlying24 (by kernel_rfl) rfl .i64 .i64 L (by omega) (by omega)
    have HMB := Lib.hid (made_bytes L)
    have HF := Lib.hid (stP_fin k n b)
    clear hL h hk hbig
    go_enter Try.func52, Try.ntmps52
    go_wp2_with fail
    rw [HMB.out, HZ.out]
    go_loopw [20] (fun vk wr => ∃ (i : Nat) (m : List UInt8), i ≤ L ∧ vk = .int .i64 (i : Int) ∧ Blk wr w.heap.size 23 (cellsB k).toArray ∧ Hid (Blk wr (w.heap.size + 1) 5 (cellsB (stP k n b i)).toArray) ∧ m.length = 16 ∧ Blk wr (w.heap.size + 1 + 1) 23 (cellsB m).toArray ∧ (i % 16 ≠ 0 → m = encS k (tagS 1 (UInt64.ofNat (i / 16)) n)) ∧ Below w.heap.size w wr) (fun vk _ => L - (intOf vk).toNat)
    case atStart => exact ⟨0, zeroK, by omega, rfl, blk_a0 _ _ _ _ _, by rw [stP_zero, HL.out]; exact blk_a1 _ _ _ _ _, rfl, blk_a2 _ _ _ _ _, fun h => absurd rfl h, alloc3_bel _ _ _ _⟩
    case round =>
      obtain ⟨i, m, hi, rfl, hB1, HB2, hm, hB3, hme, hbel⟩ := hrel
      by_cases hin : i < L
      · have hil : i < b.length := by have := HL.out; omega
        obtain ⟨bb, off, rfl, hbb, hc⟩ := (H.out.below hbel).at_ (i := i) hil
        have hii : (i : Int) < L := by omega
        by_cases h16 : i % 16 = 0
        · have HBO : Hid (∀ W, Calls Try.prog 105 #[.int .u8 1, .int .u64 (IntKind.u64.wrap (IntKind.i64.wrap ((i : Int) / (16 : Int)))), .int .u64 (n.toNat : Int)] W fun e w' => e = .returned (.agg (cellsB (tagS 1 (UInt64.ofNat (i / 16)) n)).toArray) ∧ Below W.heap.size W w') := fun W => by
            have h1 := blockOf_any 1 (UInt64.ofNat (i / 16)) n W
            rw [← wrap_sixteenth (by omega : i < 20000)] at h1
            exact h1
          obtain ⟨t, ht⟩ : ∃ t, tagS 1 (UInt64.ofNat (i / 16)) n = t := ⟨_, rfl⟩
          have htl : t.length = 16 := by rw [← ht]; rfl
          have HT := Lib.hid ht
          rw [ht] at HBO
          have HTL := Lib.hid htl
          have HSET := Lib.hid (stP_set (k := k) (n := n) hil)
          have HST : Hid (stB1 k n b i = b.getD i 0 ^^^ (encS k t).getD 0 0) := by unfold Hid stB1; rw [ht, h16]
          have hl : (cellsB (encS k t)).length = 16 := rfl
          have hall := all16 (encS k t)
          have hri : (i : Int) % 16 = 0 := by omega
          have hckw := hB1.cell
          have HB1 := Lib.hid hB1
          have HB3 := Lib.hid hB3
          have HM := Lib.hid hm
          clear ht htl hme hil hB1 hB3 hm
          go_wp2_with fail
          go_region_with (first
            | (go_at_call 105; refine (HBO.out _).mono ?_; rintro e w1 ⟨rfl, hb1⟩; have hck : ∀ j, w1.cell? ⟨w.heap.size, j, none⟩ = (cellsB k).toArray[j]? := fun j => (HB1.out.drew.below' hb1).cell j)
            | (go_at_call 53; rw [fold16B k HK.out]; refine (Encrypt_any k t _ HK.out HTL.out).mono ?_; rintro e w2 ⟨rfl, hb2⟩; have hB2 := (HB3.out.drew.below' hb1).below' hb2; have hr2 : (rowAt w2 (w.heap.size + 1 + 1)).size = 16 := by { rw [hB2.row]; simp [cellsB, HM.out] }; have hf2 := hB2.free; have HB2' := Lib.hid hB2; clear hB2))
          all_goals
            have B3 := HB2'.out.setRow (cellsB (encS k t)).toArray
            have B1 : Blk (w2.setRow (w.heap.size + 1 + 1) (cellsB (encS k t)).toArray) w.heap.size 23 (cellsB k).toArray := (setRow_other _ _ _ _ (by omega)).trans ((HB1.out.drew.below' hb1).below' hb2)
            have BO : Blk (w2.setRow (w.heap.size + 1 + 1) (cellsB (encS k t)).toArray) (w.heap.size + 1) 5 (cellsB (stP k n b i)).toArray := (setRow_other _ _ _ _ (by omega)).trans ((HB2.out.drew.below' hb1).below' hb2)
            have hbF : Below w.heap.size w (w2.setRow (w.heap.size + 1 + 1) (cellsB (encS k t)).toArray) := below_setRow ((hbel.drew.trans (hb1.mono hbel.size)).trans (hb2.mono (Nat.le_trans hbel.size hb1.size))) (by omega) _
            clear hl hall hr2 hf2 HB2'
            clear hck hb1 hb2
            generalize w2.setRow (w.heap.size + 1 + 1) (cellsB (encS k t)).toArray = W3 at *
            have c0 := B3.cell 0
            rw [bytes_get _ 0 (by rw [encS_length]; omega)] at c0
            have d0 := BO.cell i
            rw [bytes_get _ i (by rw [stP_length]; have := HL.out; omega)] at d0
            have f0 := BO.frozen i
            have hx1 : (bt b i : Int) ≤ 255 := bt_le b i
            obtain ⟨x, hx⟩ : ∃ x, (encS k t).getD 0 0 = x := ⟨_, rfl⟩
            rw [hx] at c0 HST
            have HB31 := Lib.hid B3
            have HB11 := Lib.hid B1
            have HBO1 := Lib.hid BO
            have HX : Hid (bits .xor .u8 (bt b i : Int) (x.toNat : Int) = ((stB1 k n b i).toNat : Int)) := by unfold Hid; rw [HST.out]; exact xor_u8 _ _
            clear B3 B1 BO hx
            go_wp2_with fail
            rw [HX.out]
            refine ⟨⟨i + 1, encS k t, by omega, by go_num, HB11.out.far (p := ⟨w.heap.size + 1, i, none⟩) (by simp) _, ?_, encS_length _ _, HB31.out.far (p := ⟨w.heap.size + 1, i, none⟩) (by simp) _, fun _ => ?_, hbF.setCell (p := ⟨w.heap.size + 1, i, none⟩) (by simp) _⟩, by simp [intOf]; omega⟩
            · have h := HBO1.out.set_ i (.int .u8 ((stB1 k n b i).toNat : Int))
              rw [bytes_set, HSET.out] at h
              exact h
            · rw [show (i + 1) / 16 = i / 16 from by omega, HT.out]
        · obtain ⟨r, hr⟩ : ∃ r, i % 16 = r := ⟨_, rfl⟩
          have hri : (i : Int) % 16 = (r : Int) := by omega
          have hr1 : 1 ≤ (r : Int) := by omega
          have hr2 : (r : Int) < 16 := by omega
          have hrn : r < 16 := by omega
          have hme' := hme h16
          have HST : Hid (stB1 k n b i = b.getD i 0 ^^^ m.getD r 0) := by unfold Hid stB1; rw [hme', hr]
          have HSET := Lib.hid (stP_set (k := k) (n := n) hil)
          have c0 := hB3.cell r
          rw [bytes_get _ r (by rw [hm]; exact hrn)] at c0
          have d0 := HB2.out.cell i
          rw [bytes_get _ i (by rw [stP_length]; exact hil)] at d0
          have f0 := HB2.out.frozen i
          have hx1 : (bt b i : Int) ≤ 255 := bt_le b i
          obtain ⟨x, hx⟩ : ∃ x, m.getD r 0 = x := ⟨_, rfl⟩
          rw [hx] at c0 HST
          have HX : Hid (bits .xor .u8 (bt b i : Int) (x.toNat : Int) = ((stB1 k n b i).toNat : Int)) := by unfold Hid; rw [HST.out]; exact xor_u8 _ _
          have HB1 := Lib.hid hB1
          have HB3 := Lib.hid hB3
          have HM := Lib.hid hm
          have HME := Lib.hid hme'
          have HR := Lib.hid hr
          have H16 := Lib.hid h16
          clear hx hme hme' hil hB1 hB3 hm hr hrn h16
          go_wp2_with fail
          rw [HX.out]
          refine ⟨⟨i + 1, m, by omega, by go_num, HB1.out.far (p := ⟨w.heap.size + 1, i, none⟩) (by simp) _, ?_, HM.out, HB3.out.far (p := ⟨w.heap.size + 1, i, none⟩) (by simp) _, fun h => ?_, hbel.setCell (p := ⟨w.heap.size + 1, i, none⟩) (by simp) _⟩, by simp [intOf]; omega⟩
          · have h := HB2.out.set_ i (.int .u8 ((stB1 k n b i).toNat : Int))
            rw [bytes_set, HSET.out] at h
            exact h
          · rw [show (i + 1) / 16 = i / 16 from by omega]
            exact HME.out
      · obtain rfl : i = L := by omega
        have HOB : Hid (OB w.heap.size wr (some ⟨w.heap.size + 1, 0, none⟩) i (streamS k n b)) := by
          have h := HB2.out
          have h2 := HF.out
          rw [HL.out] at h2
          rw [h2] at h
          exact h.ob (n := i) (by omega) (by rw [streamS_length, HL.out]) rfl (by omega)
        go_wp2_with fail
        go_ret2
        exact ⟨⟨some ⟨w.heap.size + 1, 0, none⟩, i, by rw [HS.out]; show _ = Ending.returned (.tuple #[.slice (some ⟨w.heap.size + 1, 0, none⟩) (streamS k n b).length i, .int .i64 0]); rw [streamS_length, HL.out]; rfl, by rw [HS.out]; exact HOB.out⟩, hbel⟩
end Go.Proofs.Ytinpiodfpnbllaa
