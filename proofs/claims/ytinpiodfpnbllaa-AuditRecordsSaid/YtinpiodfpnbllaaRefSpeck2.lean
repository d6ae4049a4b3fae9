/-
  The reference's blocks of words, and of a tag.
-/
import Derived.Test.YtinpiodfpnbllaaRefSpeck1
import Derived.Test.YtinpiodfpnbllaaSpeckDer
namespace Go.Proofs.Ytinpiodfpnbllaa
open Go.RowKit
set_option linter.unusedVariables false
attribute [local go_sem] run_storeCells_key

theorem refBytes_8 (n : UInt64) (w : World) : Calls Try.prog 138 #[.int .u64 (n.toNat : Int), .int .i64 8] w fun e w' => ∃ A c, e = .returned (.slice A 8 c) ∧ OB w.heap.size w' A c (bysN n 8) ∧ Below w.heap.size w w' := refBytes_any n 8 w (by omega)
theorem refBytes_7 (n : UInt64) (w : World) : Calls Try.prog 138 #[.int .u64 (n.toNat : Int), .int .i64 7] w fun e w' => ∃ A c, e = .returned (.slice A 7 c) ∧ OB w.heap.size w' A c (bysN n 7) ∧ Below w.heap.size w w' := refBytes_any n 7 w (by omega)
set_option maxHeartbeats 1000000 in
theorem refBlock2_any (x y : UInt64) (w : World) : Calls Try.prog 119 #[.int .u64 (x.toNat : Int), .int .u64 (y.toNat : Int)] w fun e w' => e = .returned (.agg (cellsB (blk (x, y))).toArray) ∧ Below w.heap.size w w' := by
  have HZ := Lib.hid zero16
  have HE : Hid (padK (bysN x 8 ++ bysN y 8) = blk (x, y)) := by unfold Hid; rw [bysN_8, bysN_8, padK_16 rfl]; rfl
  have hall := all16 (blk (x, y))
  have hl : (cellsB (blk (x, y))).length = 16 := rfl
  have L1 := Lib.hid (bysN_length x 8)
  have L2 := Lib.hid (bysN_length y 8)
  have L3 : Hid ((bysN x 8 ++ bysN y 8).length = 16) := by unfold Hid; rw [List.length_append, L1.out, L2.out]
  obtain ⟨bb, hbb⟩ : ∃ bb, blk (x, y) = bb := ⟨_, rfl⟩
  have HBL : Hid (bb.length = 16) := by rw [← hbb]; rfl
  rw [hbb] at HE hall hl ⊢
  clear hbb
  go_enter Try.func119, Try.ntmps119
  go_wp2_with (first
    | (go_at_call 138; (with_reducible refine (refBytes_8 x _).mono ?_); rintro e w1 ⟨A1, c1, rfl, ho1, hb1⟩; rw [HZ.out] at hb1; have HO1 := Lib.hid ho1; clear ho1)
    | (go_at_call 138; (with_reducible refine (refBytes_8 y _).mono ?_); rintro e w2 ⟨A2, c2, rfl, ho2, hb2⟩; have HO2 := Lib.hid ho2; clear ho2)
    | (at_builtin; refine wpList_append_bytes _ rfl (.tmp 6) (.tmp 8) rfl _ A1 8 c1 (bysN x 8) L1.out rfl (HO1.out.below hb2) A2 8 c2 (bysN y 8) L2.out rfl ((HO2.out.br (by have := L2.out; omega)).src L2.out) (by omega) (Nat.le_trans hb1.size hb2.size) ?_; intro A3 c3 w3 hon3 hbl3 hg3; clear hg3; have HO3 := Lib.hid hon3; clear hon3)
    | (go_at_call 145; refine (refKey_any A3 c3 _ _ L3.out (HO3.out.br (by have := L3.out; omega))).mono ?_; rintro e w4 ⟨rfl, hb4⟩; rw [HE.out]; have hb01 := hb1.trans ((hb2.mono hb1.size).trans hbl3); have hB := ((Blk.new w 23 (cellsB zeroK).toArray).below hb01 (by simp)).below' hb4; have hr5 : (rowAt w4 w.heap.size).size = 16 := by { rw [hB.row]; rfl }; have hf5 := hB.free; have HB := Lib.hid hB; clear hB))
  have hbF : Below w.heap.size w w4 := (alloc_bel w _).trans ((hb1.trans ((hb2.mono hb1.size).trans (hbl3.trans (hb4.mono (Nat.le_trans hb1.size (Nat.le_trans hb2.size hbl3.size)))))).mono (alloc_bel w (.cells (cellsB zeroK).toArray 23)).size)
  exact bodyPost_ret (results_cell_row rfl _ _ w.heap.size _ _ (0, 0) _ rfl (HB.out.setRow (cellsB bb).toArray) under_key rfl (cellsB_size _ HBL.out)) rfl ⟨rfl, below_setRow hbF (Nat.le_refl _) _⟩

/-- The block of a tag. -/
theorem tagS_bytes (t : UInt8) (c n : UInt64) (hc : c.toNat < 72057594037927936) : t :: (bysN c 7 ++ bysN n 8) = tagS t c n := by
  have hx : (t.toUInt64 <<< 56 ||| c).toNat = t.toNat * 72057594037927936 + c.toNat := by
    rw [UInt64.toNat_or, UInt64.toNat_shiftLeft, UInt8.toNat_toUInt64, show (56 : UInt64).toNat % 64 = 56 from rfl, Nat.shiftLeft_eq]
    have ht := t.toNat_lt
    rw [show t.toNat * 2 ^ 56 % 2 ^ 64 = t.toNat * 2 ^ 56 from by omega, or_add 56 (by omega)]
  unfold tagS blk
  dsimp only
  rw [by8_split, bysN_8]
  generalize (t.toUInt64 <<< 56 ||| c) = z at hx
  have e1 : (z >>> 56).toUInt8 = t := by
    apply UInt8.toNat_inj.1
    rw [UInt64.toNat_toUInt8, show (56 : UInt64) = UInt64.ofNat 56 from rfl, toNat_shr _ _ (by omega), hx]
    have ht := t.toNat_lt
    omega
  have e2 : bysN z 7 = bysN c 7 := by
    have hb : ∀ i, i < 7 → (z >>> UInt64.ofNat (8 * i)).toUInt8 = (c >>> UInt64.ofNat (8 * i)).toUInt8 := fun i hi => by
      apply UInt8.toNat_inj.1
      rw [UInt64.toNat_toUInt8, UInt64.toNat_toUInt8, toNat_shr _ _ (by omega), toNat_shr _ _ (by omega), hx]
      match i, hi with
      | 0, _ => omega
      | 1, _ => omega
      | 2, _ => omega
      | 3, _ => omega
      | 4, _ => omega
      | 5, _ => omega
      | 6, _ => omega
    simp only [bysN]
    rw [hb 0 (by omega), hb 1 (by omega), hb 2 (by omega), hb 3 (by omega), hb 4 (by omega), hb 5 (by omega), hb 6 (by omega)]
  rw [e1, e2]
  rfl

set_option maxHeartbeats 1000000 in
theorem refTag_any (t : UInt8) (c n : UInt64) (w : World) (hc : c.toNat < 72057594037927936) : Calls Try.prog 114 #[.int .u8 (t.toNat : Int), .int .u64 (c.toNat : Int), .int .u64 (n.toNat : Int)] w fun e w' => e = .returned (.agg (cellsB (tagS t c n)).toArray) ∧ Below w.heap.size w w' := by
  have HZ := Lib.hid zero16
  have HTB := Lib.hid (tagS_bytes t c n hc)
  have ht : (t.toNat : Int) ≤ 255 := by have := t.toNat_lt; omega
  have HE : Hid (padK (([t] ++ bysN c 7) ++ bysN n 8) = tagS t c n) := by
    have e : ([t] ++ bysN c 7) ++ bysN n 8 = tagS t c n := by rw [← HTB.out]; simp
    unfold Hid; rw [e, padK_16 rfl]
  have hall := all16 (tagS t c n)
  have hl : (cellsB (tagS t c n)).length = 16 := rfl
  have L1 := Lib.hid (bysN_length c 7)
  have L2 := Lib.hid (bysN_length n 8)
  have L4 : Hid (([t] ++ bysN c 7).length = 8) := by unfold Hid; rw [List.length_append, L1.out]; rfl
  have L3 : Hid ((([t] ++ bysN c 7) ++ bysN n 8).length = 16) := by unfold Hid; rw [List.length_append, L4.out, L2.out]
  obtain ⟨bb, hbb⟩ : ∃ bb, tagS t c n = bb := ⟨_, rfl⟩
  have HBL : Hid (bb.length = 16) := by rw [← hbb]; rfl
  rw [hbb] at HE hall hl ⊢
  have HL0 : Hid (OB (w.heap.size + 1) ((w.alloc (.cells (cellsB zeroK).toArray 23)).alloc (.cells #[.int .u8 (t.toNat : Int)] 5)) (some ⟨w.heap.size + 1, 0, none⟩) 1 [t]) := by
    have := OB.lit (w.heap.size + 1) (w.alloc (.cells (cellsB zeroK).toArray 23)) [t] (by simp) (by simp) rfl
    rw [World.size_alloc] at this
    exact this
  have HB0 : Hid (Blk ((w.alloc (.cells (cellsB zeroK).toArray 23)).alloc (.cells #[.int .u8 (t.toNat : Int)] 5)) w.heap.size 23 (cellsB zeroK).toArray) := blk_b0 _ _ _ _
  have HBL0 : Hid (Below w.heap.size w ((w.alloc (.cells (cellsB zeroK).toArray 23)).alloc (.cells #[.int .u8 (t.toNat : Int)] 5))) := alloc2_bel w _ _
  obtain ⟨W2, hW2⟩ : ∃ W : World, W = ((w.alloc (.cells (cellsB zeroK).toArray 23)).alloc (.cells #[.int .u8 (t.toNat : Int)] 5)) := ⟨_, rfl⟩
  rw [← hW2] at HL0 HB0 HBL0
  have HW2 := Lib.hid hW2
  clear hbb hc HTB hW2
  go_enter Try.func114, Try.ntmps114
  go_wp2_with (first
    | (go_at_call 138; (with_reducible refine (refBytes_7 c _).mono ?_); rintro e w1 ⟨A1, c1, rfl, ho1, hb1⟩; rw [HZ.out, ← HW2.out] at hb1 ho1; have HO1 := Lib.hid ho1; clear ho1; have hz2 : w.heap.size + 1 ≤ W2.heap.size := by { have := HW2.out; rw [this]; simp })
    | (go_at_call 138; (with_reducible refine (refBytes_8 n _).mono ?_); rintro e w2 ⟨A2, c2, rfl, ho2, hb2⟩; have HO2 := Lib.hid ho2; clear ho2)
    | (at_builtin; (refine wpList_append_bytes _ rfl (.tmp 9) (.tmp 11) rfl (w.heap.size + 1) (some ⟨w.heap.size + 1, 0, none⟩) 1 1 [t] rfl rfl (HL0.out.below hb1) A1 7 c1 (bysN c 7) L1.out rfl ((HO1.out.br (by have := L1.out; omega)).src L1.out) (by omega) (Nat.le_trans hz2 hb1.size) ?_); intro A3 c3 w3 hon3 hbl3 hg3; clear hg3; have HO3 := Lib.hid hon3; clear hon3)
    | (at_builtin; refine wpList_append_bytes _ rfl (.tmp 13) (.tmp 15) rfl (w.heap.size + 1) A3 8 c3 ([t] ++ bysN c 7) L4.out rfl (HO3.out.below hb2) A2 8 c2 (bysN n 8) L2.out rfl ((HO2.out.br (by have := L2.out; omega)).src L2.out) (by omega) (Nat.le_trans hz2 (Nat.le_trans hb1.size (Nat.le_trans hbl3.size hb2.size))) ?_; intro A4 c4 w4 hon4 hbl4 hg4; clear hg4; have HO4 := Lib.hid hon4; clear hon4)
    | (go_at_call 145; refine (refKey_any A4 c4 _ _ L3.out (HO4.out.br (by have := L3.out; omega))).mono ?_; rintro e w5 ⟨rfl, hb5⟩; rw [HE.out]; have hbx : Below (w.heap.size + 1) W2 w4 := ((hb1.mono hz2).trans (hbl3.trans ((hb2.mono (Nat.le_trans hz2 (Nat.le_trans hb1.size hbl3.size))).trans hbl4))); have hB := (HB0.out.below hbx (by omega)).below' hb5; have hr5 : (rowAt w5 w.heap.size).size = 16 := by { rw [hB.row]; rfl }; have hf5 := hB.free; have HB := Lib.hid hB; clear hB))
  have hbF : Below w.heap.size w w5 := (HBL0.out.trans (hbx.mono (by omega))).trans (hb5.mono (Nat.le_trans HBL0.out.size hbx.size))
  exact bodyPost_ret (results_cell_row rfl _ _ w.heap.size _ _ (0, 0) _ rfl (HB.out.setRow (cellsB bb).toArray) under_key rfl (cellsB_size _ HBL.out)) rfl ⟨rfl, below_setRow hbF (Nat.le_refl _) _⟩
end Go.Proofs.Ytinpiodfpnbllaa
