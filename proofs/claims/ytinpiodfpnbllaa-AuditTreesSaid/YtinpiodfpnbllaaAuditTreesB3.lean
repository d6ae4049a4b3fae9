/-
  Lemmas and contracts, joined: part 3.
-/
import Derived.Deep.RegionHeld3
import Derived.Great.BuildSlice
import Derived.Laws.Tables
import Derived.Shelf.RegionOpenPlain
import Derived.Shelf.GgSortFunc.RowK
import Derived.Sort.WalkB12
import Derived.Lib.SlicesMore
import Derived.Lib.OwnBridge
import Derived.Deep.LoopGhost
import Derived.Laws.Cells
import Derived.Lib.AppendZerosOnto
import Derived.Test.YtinpiodfpnbllaaAuditTreesB2
set_option linter.unusedSimpArgs false
set_option linter.unusedVariables false
/- The reference's blocks of words, and of a tag. -/
namespace Go.Proofs.Ytinpiodfpnbllaa
open Go.RowKit
set_option linter.unusedVariables false
attribute [local go_sem] run_storeCells_key

theorem refBytes_8 (n : UInt64) (w : World) : Calls Try.prog 138 #[.int .u64 (n.toNat : Int), .int .i64 8] w fun e w' => ∃ A c, e = .returned (.slice A 8 c) ∧ OB w.heap.size w' A c (bysN n 8) ∧ Below w.heap.size w w' := refBytes_any n 8 w (by omega)
theorem refBytes_7 (n : UInt64) (w : World) : Calls Try.prog 138 #[.int .u64 (n.toNat : Int), .int .i64 7] w fun e w' => ∃ A c, e = .returned (.slice A 7 c) ∧ OB w.heap.size w' A c (bysN n 7) ∧ Below w.heap.size w w' := refBytes_any n 7 w (by omega)
set_option maxHeartbeats 1000000 in
theorem refBlock2_any (x y : UInt64) (w : World) : Calls Try.prog 119 #[.int .u64 (x.toNat : Int), .int .u64 (y.toNat : Int)] w fun e w' => e = .returned (.agg (cellsB (blk (x, y))).toArray) ∧ Below w.heap.size w w' := by
  have HZ := Lib.hid zero16
  have HE : Hid (padK (bysN x 8 ++ bysN y 8) = blk (x, y)) := by unfold Hid; rw [bysN_8, bysN_8, padK_16 rfl]; rfl
  have hall := all16 (blk (x, y))
  have hl : (cellsB (blk (x, y))).length = 16 := rfl
  have L1 := Lib.hid (bysN_length x 8)
  have L2 := Lib.hid (bysN_length y 8)
  have L3 : Hid ((bysN x 8 ++ bysN y 8).length = 16) := by unfold Hid; rw [List.length_append, L1.out, L2.out]
  obtain ⟨bb, hbb⟩ : ∃ bb, blk (x, y) = bb := ⟨_, rfl⟩
  have HBL : Hid (bb.length = 16) := by rw [← hbb]; rfl
  rw [hbb] at HE hall hl ⊢
  clear hbb
  go_enter Try.func119, Try.ntmps119
  go_wp2_with (first
    | (go_at_call 138; (with_reducible refine (refBytes_8 x _).mono ?_); rintro e w1 ⟨A1, c1, rfl, ho1, hb1⟩; rw [HZ.out] at hb1; have HO1 := Lib.hid ho1; clear ho1)
    | (go_at_call 138; (with_reducible refine (refBytes_8 y _).mono ?_); rintro e w2 ⟨A2, c2, rfl, ho2, hb2⟩; have HO2 := Lib.hid ho2; clear ho2)
    | (at_builtin; refine wpList_append_bytes _ rfl (.tmp 6) (.tmp 8) rfl _ A1 8 c1 (bysN x 8) L1.out rfl (HO1.out.below hb2) A2 8 c2 (bysN y 8) L2.out rfl ((HO2.out.br (by have := L2.out; omega)).src L2.out) (by omega) (Nat.le_trans hb1.size hb2.size) ?_; intro A3 c3 w3 hon3 hbl3 hg3; clear hg3; have HO3 := Lib.hid hon3; clear hon3)
    | (go_at_call 145; refine (refKey_any A3 c3 _ _ L3.out (HO3.out.br (by have := L3.out; omega))).mono ?_; rintro e w4 ⟨rfl, hb4⟩; rw [HE.out]; have hb01 := hb1.trans ((hb2.mono hb1.size).trans hbl3); have hB := ((Blk.new w 23 (cellsB zeroK).toArray).below hb01 (by simp)).below' hb4; have hr5 : (rowAt w4 w.heap.size).size = 16 := by { rw [hB.row]; rfl }; have hf5 := hB.free; have HB := Lib.hid hB; clear hB))
  have hbF : Below w.heap.size w w4 := (alloc_bel w _).trans ((hb1.trans ((hb2.mono hb1.size).trans (hbl3.trans (hb4.mono (Nat.le_trans hb1.size (Nat.le_trans hb2.size hbl3.size)))))).mono (alloc_bel w (.cells (cellsB zeroK).toArray 23)).size)
  exact bodyPost_ret (results_cell_row rfl _ _ w.heap.size _ _ (0, 0) _ rfl (HB.out.setRow (cellsB bb).toArray) under_key rfl (cellsB_size _ HBL.out)) rfl ⟨rfl, below_setRow hbF (Nat.le_refl _) _⟩

/-- The block of a tag. -/
theorem tagS_bytes (t : UInt8) (c n : UInt64) (hc : c.toNat < 72057594037927936) : t :: (bysN c 7 ++ bysN n 8) = tagS t c n := by
  have hx : (t.toUInt64 <<< 56 ||| c).toNat = t.toNat * 72057594037927936 + c.toNat := by
    rw [UInt64.toNat_or, UInt64.toNat_shiftLeft, UInt8.toNat_toUInt64, show (56 : UInt64).toNat % 64 = 56 from rfl, Nat.shiftLeft_eq]
    have ht := t.toNat_lt
    rw [show t.toNat * 2 ^ 56 % 2 ^ 64 = t.toNat * 2 ^ 56 from by omega, or_add 56 (by omega)]
  unfold tagS blk
  dsimp only
  rw [by8_split, bysN_8]
  generalize (t.toUInt64 <<< 56 ||| c) = z at hx
  have e1 : (z >>> 56).toUInt8 = t := by
    apply UInt8.toNat_inj.1
    rw [UInt64.toNat_toUInt8, show (56 : UInt64) = UInt64.ofNat 56 from rfl, toNat_shr _ _ (by omega), hx]
    have ht := t.toNat_lt
    omega
  have e2 : bysN z 7 = bysN c 7 := by
    have hb : ∀ i, i < 7 → (z >>> UInt64.ofNat (8 * i)).toUInt8 = (c >>> UInt64.ofNat (8 * i)).toUInt8 := fun i hi => by
      apply UInt8.toNat_inj.1
      rw [UInt64.toNat_toUInt8, UInt64.toNat_toUInt8, toNat_shr _ _ (by omega), toNat_shr _ _ (by omega), hx]
      match i, hi with
      | 0, _ => omega
      | 1, _ => omega
      | 2, _ => omega
      | 3, _ => omega
      | 4, _ => omega
      | 5, _ => omega
      | 6, _ => omega
    simp only [bysN]
    rw [hb 0 (by omega), hb 1 (by omega), hb 2 (by omega), hb 3 (by omega), hb 4 (by omega), hb 5 (by omega), hb 6 (by omega)]
  rw [e1, e2]
  rfl

set_option maxHeartbeats 1000000 in
theorem refTag_any (t : UInt8) (c n : UInt64) (w : World) (hc : c.toNat < 72057594037927936) : Calls Try.prog 114 #[.int .u8 (t.toNat : Int), .int .u64 (c.toNat : Int), .int .u64 (n.toNat : Int)] w fun e w' => e = .returned (.agg (cellsB (tagS t c n)).toArray) ∧ Below w.heap.size w w' := by
  have HZ := Lib.hid zero16
  have HTB := Lib.hid (tagS_bytes t c n hc)
  have ht : (t.toNat : Int) ≤ 255 := by have := t.toNat_lt; omega
  have HE : Hid (padK (([t] ++ bysN c 7) ++ bysN n 8) = tagS t c n) := by
    have e : ([t] ++ bysN c 7) ++ bysN n 8 = tagS t c n := by rw [← HTB.out]; simp
    unfold Hid; rw [e, padK_16 rfl]
  have hall := all16 (tagS t c n)
  have hl : (cellsB (tagS t c n)).length = 16 := rfl
  have L1 := Lib.hid (bysN_length c 7)
  have L2 := Lib.hid (bysN_length n 8)
  have L4 : Hid (([t] ++ bysN c 7).length = 8) := by unfold Hid; rw [List.length_append, L1.out]; rfl
  have L3 : Hid ((([t] ++ bysN c 7) ++ bysN n 8).length = 16) := by unfold Hid; rw [List.length_append, L4.out, L2.out]
  obtain ⟨bb, hbb⟩ : ∃ bb, tagS t c n = bb := ⟨_, rfl⟩
  have HBL : Hid (bb.length = 16) := by rw [← hbb]; rfl
  rw [hbb] at HE hall hl ⊢
  have HL0 : Hid (OB (w.heap.size + 1) ((w.alloc (.cells (cellsB zeroK).toArray 23)).alloc (.cells #[.int .u8 (t.toNat : Int)] 5)) (some ⟨w.heap.size + 1, 0, none⟩) 1 [t]) := by
    have := OB.lit (w.heap.size + 1) (w.alloc (.cells (cellsB zeroK).toArray 23)) [t] (by simp) (by simp) rfl
    rw [World.size_alloc] at this
    exact this
  have HB0 : Hid (Blk ((w.alloc (.cells (cellsB zeroK).toArray 23)).alloc (.cells #[.int .u8 (t.toNat : Int)] 5)) w.heap.size 23 (cellsB zeroK).toArray) := blk_b0 _ _ _ _
  have HBL0 : Hid (Below w.heap.size w ((w.alloc (.cells (cellsB zeroK).toArray 23)).alloc (.cells #[.int .u8 (t.toNat : Int)] 5))) := alloc2_bel w _ _
  obtain ⟨W2, hW2⟩ : ∃ W : World, W = ((w.alloc (.cells (cellsB zeroK).toArray 23)).alloc (.cells #[.int .u8 (t.toNat : Int)] 5)) := ⟨_, rfl⟩
  rw [← hW2] at HL0 HB0 HBL0
  have HW2 := Lib.hid hW2
  clear hbb hc HTB hW2
  go_enter Try.func114, Try.ntmps114
  go_wp2_with (first
    | (go_at_call 138; (with_reducible refine (refBytes_7 c _).mono ?_); rintro e w1 ⟨A1, c1, rfl, ho1, hb1⟩; rw [HZ.out, ← HW2.out] at hb1 ho1; have HO1 := Lib.hid ho1; clear ho1; have hz2 : w.heap.size + 1 ≤ W2.heap.size := by { have := HW2.out; rw [this]; simp })
    | (go_at_call 138; (with_reducible refine (refBytes_8 n _).mono ?_); rintro e w2 ⟨A2, c2, rfl, ho2, hb2⟩; have HO2 := Lib.hid ho2; clear ho2)
    | (at_builtin; (refine wpList_append_bytes _ rfl (.tmp 9) (.tmp 11) rfl (w.heap.size + 1) (some ⟨w.heap.size + 1, 0, none⟩) 1 1 [t] rfl rfl (HL0.out.below hb1) A1 7 c1 (bysN c 7) L1.out rfl ((HO1.out.br (by have := L1.out; omega)).src L1.out) (by omega) (Nat.le_trans hz2 hb1.size) ?_); intro A3 c3 w3 hon3 hbl3 hg3; clear hg3; have HO3 := Lib.hid hon3; clear hon3)
    | (at_builtin; refine wpList_append_bytes _ rfl (.tmp 13) (.tmp 15) rfl (w.heap.size + 1) A3 8 c3 ([t] ++ bysN c 7) L4.out rfl (HO3.out.below hb2) A2 8 c2 (bysN n 8) L2.out rfl ((HO2.out.br (by have := L2.out; omega)).src L2.out) (by omega) (Nat.le_trans hz2 (Nat.le_trans hb1.size (Nat.le_trans hbl3.size hb2.size))) ?_; intro A4 c4 w4 hon4 hbl4 hg4; clear hg4; have HO4 := Lib.hid hon4; clear hon4)
    | (go_at_call 145; refine (refKey_any A4 c4 _ _ L3.out (HO4.out.br (by have := L3.out; omega))).mono ?_; rintro e w5 ⟨rfl, hb5⟩; rw [HE.out]; have hbx : Below (w.heap.size + 1) W2 w4 := ((hb1.mono hz2).trans (hbl3.trans ((hb2.mono (Nat.le_trans hz2 (Nat.le_trans hb1.size hbl3.size))).trans hbl4))); have hB := (HB0.out.below hbx (by omega)).below' hb5; have hr5 : (rowAt w5 w.heap.size).size = 16 := by { rw [hB.row]; rfl }; have hf5 := hB.free; have HB := Lib.hid hB; clear hB))
  have hbF : Below w.heap.size w w5 := (HBL0.out.trans (hbx.mono (by omega))).trans (hb5.mono (Nat.le_trans HBL0.out.size hbx.size))
  exact bodyPost_ret (results_cell_row rfl _ _ w.heap.size _ _ (0, 0) _ rfl (HB.out.setRow (cellsB bb).toArray) under_key rfl (cellsB_size _ HBL.out)) rfl ⟨rfl, below_setRow hbF (Nat.le_refl _) _⟩
end Go.Proofs.Ytinpiodfpnbllaa

/- The reference's round keys, and Encrypt, Derive, Number. -/
namespace Go.Proofs.Ytinpiodfpnbllaa
open Go.RowKit
set_option linter.unusedVariables false
attribute [local go_sem] run_storeCells_key

theorem quiet_n {P : Program} {f : FuncId} {args : Array Value} {w : World} {n : Nat} {v : Value}
    (h : Calls P f args (w.drewN n) fun e w' => e = .returned v ∧ ∃ m, w' = (w.drewN n).drewN m) : Calls P f args (w.drewN n) fun e w'' => e = .returned v ∧ ∃ m, w'' = w.drewN m :=
  h.mono fun _ _ ⟨he, m, hm⟩ => ⟨he, n + m, by rw [hm, World.drewN_drewN]⟩
def cellsU (l : List UInt64) : List Value := l.map fun x => .int .u64 (x.toNat : Int)
theorem cellsU_append (a b : List UInt64) : cellsU (a ++ b) = cellsU a ++ cellsU b := by simp [cellsU]
theorem u64_info : (Try.prog.info? 109).map (fun i => (i.zero, i.size, i.bytes)) = some (some (.int .u64 0), 1, 8) := by kernel_rfl
/-- The round keys up to number i. -/
def ksL (k : W2) (i : Nat) : List UInt64 := (List.range (i + 1)).map fun j => (ksS k j).2
theorem ksL_length (k : W2) (i : Nat) : (ksL k i).length = i + 1 := by simp [ksL]
theorem ksL_succ (k : W2) (i : Nat) : ksL k (i + 1) = ksL k i ++ [(ksS k (i + 1)).2] := by rw [ksL, List.range_succ]; simp [ksL]
theorem rnd_fst (i : Nat) (x y : UInt64) (hi : i < 64) : bits .xor .u64 (IntKind.u64.wrap ((y.toNat : Int) + ((rotr8 x).toNat : Int))) (i : Int) = ((rnd (UInt64.ofNat i) (x, y)).1.toNat : Int) := by
  have e : (i : Int) = ((UInt64.ofNat i).toNat : Int) := by rw [UInt64.toNat_ofNat', Nat.mod_eq_of_lt (by omega)]
  rw [u64_add, e, u64_xor, UInt64.add_comm]
  rfl
theorem rnd_fstm (i : Nat) (x y : UInt64) (hi : i < 64) : bits .xor .u64 (((y.toNat : Int) + ((rotr8 x).toNat : Int)) % 18446744073709551616) (i : Int) = ((rnd (UInt64.ofNat i) (x, y)).1.toNat : Int) := by
  rw [← rnd_fst i x y hi, u64_addm, u64_add]
theorem rnd_fstk (k x y : UInt64) : bits .xor .u64 (IntKind.u64.wrap (((rotr8 x).toNat : Int) + (y.toNat : Int))) (k.toNat : Int) = ((rnd k (x, y)).1.toNat : Int) := by
  rw [u64_add, u64_xor]
  rfl
theorem rnd_fstkm (k x y : UInt64) : bits .xor .u64 ((((rotr8 x).toNat : Int) + (y.toNat : Int)) % 18446744073709551616) (k.toNat : Int) = ((rnd k (x, y)).1.toNat : Int) := by
  rw [← rnd_fstk k x y, u64_addm, u64_add]
theorem rnd_snd (k x y : UInt64) : bits .xor .u64 ((rotl3 y).toNat : Int) ((rnd k (x, y)).1.toNat : Int) = ((rnd k (x, y)).2.toNat : Int) := by
  rw [u64_xor]
  rfl

set_option maxHeartbeats 1000000 in
set_option maxRecDepth 100000 in
theorem refRoundKeys_any (k : List UInt8) (w : World) (hk : k.length = 16) : Calls Try.prog 116 #[.agg (cellsB k).toArray] w fun e w' => ∃ A c, e = .returned (.slice A 32 c) ∧ Rd w' 1 A c 32 (cellsU (ksL (wds k) 31)) ∧ Below w.heap.size w w' := by
  have HK := Lib.hid hk
  have hkl : (cellsB k).length = 16 := by rw [cellsB_length, hk]
  clear hk
  go_enter Try.func116, Try.ntmps116
  go_wp2_with (go_at_call 115; rw [fold16B k HK.out]; refine (refWords_key k _ HK.out).mono ?_; rintro e w1 ⟨rfl, hb1⟩)
  have hb01 : Below w.heap.size w w1 := (alloc_bel w _).trans (hb1.mono (alloc_bel w (.cells (cellsB k).toArray 23)).size)
  go_loopw [3, 4, 5, 6] (fun vl va vo vi wr => ∃ (i : Nat) (A : Option Addr) (c : Nat), i ≤ 31 ∧ vi = .int .i64 (i : Int) ∧ vl = .int .u64 ((ksS (wds k) i).1.toNat : Int) ∧ va = .int .u64 ((ksS (wds k) i).2.toNat : Int) ∧ vo = .slice A (i + 1) c ∧
      Hid (wr.ownsRow w.heap.size 109 1 (.slice A (i + 1) c) (i + 1) (cellsU (ksL (wds k) i))) ∧ Below w.heap.size w wr) (fun _ _ _ vi _ => 31 - (intOf vi).toNat)
  case atStart =>
    refine ⟨0, some ⟨w1.heap.size, 0, none⟩, 1, by omega, rfl, rfl, rfl, rfl, ?_, hb01.alloc hb01.size _⟩
    exact World.ownsRow_lit (e := 109) (size := 1) w1 (cellsU (ksL (wds k) 0)).toArray 1 hb01.size (by simp [maxLen]) (by simp [cellsU, ksL])
  case round =>
    obtain ⟨i, A, c, hi, rfl, rfl, rfl, rfl, HO, hbel⟩ := hrel
    by_cases hlt : i < 31
    · have hii : (i : Int) < 31 := by omega
      have HKS : Hid (ksS (wds k) (i + 1) = rnd (UInt64.ofNat i) (ksS (wds k) i)) := rfl
      have HLS := Lib.hid (ksL_succ (wds k) i)
      obtain ⟨⟨x, y⟩, hp⟩ : ∃ p, ksS (wds k) i = p := ⟨_, rfl⟩
      rw [hp] at HKS ⊢
      have hx := u64_bd x
      have hy := u64_bd y
      have E1 := Lib.hid (rnd_fst i x y (by omega))
      have E1m := Lib.hid (rnd_fstm i x y (by omega))
      have E2 := Lib.hid (rnd_snd (UInt64.ofNat i) x y)
      obtain ⟨i0, hi0, hz0, hz1, hz2⟩ := info_parts u64_info
      have HI0 := Lib.hid hi0
      have HI1 := Lib.hid hz0
      have HI2 := Lib.hid hz1
      have HI3 := Lib.hid hz2
      clear hp hi0 hz0 hz1 hz2
      go_wp2_with (first
        | (go_at_call 117; refine (refRotr_8 x _).mono ?_; rintro e w2 ⟨rfl, n2, rfl⟩)
        | (go_at_call 118; refine (refRotl_3 y _).mono ?_; rintro e w3 ⟨rfl, n3, rfl⟩; first | rw [E1.out] | rw [E1m.out])
        | (at_builtin; rw [E2.out]; refine wpList_append_src _ rfl (.tmp 29) (.tmp 31) 172 rfl w.heap.size 109 i0 (.int .u64 0) 1 8 Try.underlying172 HI0.out HI1.out HI2.out HI3.out rfl (by omega) A (i + 1) c (cellsU (ksL (wds k) i)) rfl (ownsRow_below HO.out ((below_drewN (Below.refl _ wr) _).alloc (Nat.le_refl _) _))
            (some ⟨wr.heap.size, 0, none⟩) 1 1 [.int .u64 ((rnd (UInt64.ofNat i) (x, y)).2.toNat : Int)] rfl (Src.one _ _ _) (by simp [Value.oneCell']) (by simp only [maxLen]; omega) (by omega) (by have := hbel.size; simp; omega) ?_; intro A2 c2 w5 hon5 hg5 _; have HON5 := Lib.hid hon5; have hb5 := grown_below ((below_drewN hbel (n2 + n3)).alloc hbel.size _) (ownsRow_below HO.out ((below_drewN (Below.refl _ wr) (n2 + n3)).alloc (Nat.le_refl _) _)) hg5 (by have := hbel.size; simp; omega) (Nat.le_refl _); clear hon5 hg5))
      go_roundw
      case rel => exact ⟨i + 1, A2, c2, by omega, by go_num, by rw [HKS.out], by rw [HKS.out], rfl, by rw [HLS.out, cellsU_append, HKS.out]; exact HON5.out, hb5⟩
      case measure => simp [intOf]; omega
    · obtain rfl : i = 31 := by omega
      go_wp2_with fail
      go_ret
      exact ⟨A, c, rfl, Rd.of_own HO.out (by omega), hbel⟩
end Go.Proofs.Ytinpiodfpnbllaa

/- The reference's Encrypt, Derive, Number. -/
namespace Go.Proofs.Ytinpiodfpnbllaa
open Go.RowKit
set_option linter.unusedVariables false
attribute [local go_sem] run_storeCells_key

theorem ksL_at (k : W2) (i : Nat) (h : i < 32) : (cellsU (ksL k 31))[i]? = some (.int .u64 ((ksS k i).2.toNat : Int)) := by
  simp [cellsU, ksL, List.getElem?_range h]
set_option maxHeartbeats 1000000 in
set_option maxRecDepth 100000 in
theorem refEncrypt_any (k b : List UInt8) (w : World) (hk : k.length = 16) (hb : b.length = 16) : Calls Try.prog 56 #[.agg (cellsB k).toArray, .agg (cellsB b).toArray] w fun e w' => e = .returned (.agg (cellsB (encS k b)).toArray) ∧ Below w.heap.size w w' := by
  have HK := Lib.hid hk
  have HB := Lib.hid hb
  have hkl : (cellsB k).length = 16 := by rw [cellsB_length, hk]
  have hbl : (cellsB b).length = 16 := by rw [cellsB_length, hb]
  have HZ := Lib.hid zero16
  clear hk hb
  go_enter Try.func56, Try.ntmps56
  go_wp2_with (first
    | (go_at_call 115; rw [fold16B b HB.out, HZ.out]; refine (refWords_key b _ HB.out).mono ?_; rintro e w1 ⟨rfl, hb1⟩; have hck : ∀ j, w1.cell? ⟨w.heap.size, j, none⟩ = (cellsB k).toArray[j]? := fun j => ((blk_a0 w (cellsB k).toArray 23 _ _).below' hb1).cell j)
    | (go_at_call 116; rw [fold16B k HK.out]; refine (refRoundKeys_any k _ HK.out).mono ?_; rintro e w2 ⟨A, c, rfl, hR, hb2⟩; have HR := Lib.hid hR; clear hR))
  have HB0 : Hid (Blk w2 (w.heap.size + 1 + 1) 23 (cellsB zeroK).toArray) := (((blk_a2 w _ _ (cellsB zeroK).toArray 23).below' hb1)).below' hb2
  have hb02 : Below w.heap.size w w2 := (alloc3_bel w _ _ _).trans ((hb1.trans (hb2.mono hb1.size)).mono (alloc3_bel w _ _ _).size)
  have hs2 : w.heap.size + 1 + 1 < w2.heap.size := HB0.out.lt
  clear hck
  go_loopw [5, 6, 8] (fun vx vy vi wr => ∃ i : Nat, i ≤ 32 ∧ vi = .int .i64 (i : Int) ∧ vx = .int .u64 ((enW (wds k) (wds b) i).1.toNat : Int) ∧ vy = .int .u64 ((enW (wds k) (wds b) i).2.toNat : Int) ∧ Below w2.heap.size w2 wr) (fun _ _ vi _ => 32 - (intOf vi).toNat)
  case atStart => exact ⟨0, by omega, rfl, rfl, rfl, Below.refl _ _⟩
  case round =>
    obtain ⟨i, hi, rfl, rfl, rfl, hbel⟩ := hrel
    by_cases hlt : i < 32
    · have hii : (i : Int) < 32 := by omega
      have HES : Hid (enW (wds k) (wds b) (i + 1) = rnd (ksS (wds k) i).2 (enW (wds k) (wds b) i)) := rfl
      obtain ⟨g, off, rfl, hg, v, hv, hc⟩ := Rd.at1 (HR.out.below hbel) hlt
      rw [ksL_at _ _ hlt] at hv
      injection hv with hv
      subst hv
      obtain ⟨⟨x, y⟩, hp⟩ : ∃ p, enW (wds k) (wds b) i = p := ⟨_, rfl⟩
      obtain ⟨u, hu⟩ : ∃ u, (ksS (wds k) i).2 = u := ⟨_, rfl⟩
      rw [hp, hu] at HES
      rw [hp]
      rw [hu] at hc
      have hx := u64_bd x
      have hy := u64_bd y
      have E1 := Lib.hid (rnd_fstk u x y)
      have E1m := Lib.hid (rnd_fstkm u x y)
      have E2 := Lib.hid (rnd_snd u x y)
      clear hp hu
      go_wp2_with fail
      go_quiet ((go_at_call 117; exact quiet_n (refRotr_8 x _)))
      first | rw [E1.out] | rw [E1m.out] | skip
      go_wp2_with (go_at_call 118; refine (refRotl_3 y _).mono ?_; rintro e w3 ⟨rfl, n3, rfl⟩; first | rw [E1.out] | rw [E1m.out] | skip)
      rw [E2.out]
      go_roundw
      case rel => exact ⟨i + 1, by omega, by go_num, by rw [HES.out], by rw [HES.out], by first | exact below_drewN hbel _ | exact below_drewN (below_drewN hbel _) _⟩
      case measure => simp [intOf]; omega
    · obtain rfl : i = 32 := by omega
      have HE : Hid (encS k b = blk (enW (wds k) (wds b) 32)) := rfl
      obtain ⟨⟨x, y⟩, hp⟩ : ∃ p, enW (wds k) (wds b) 32 = p := ⟨_, rfl⟩
      rw [hp] at HE ⊢
      have hall := all16 (blk (x, y))
      have hl : (cellsB (blk (x, y))).length = 16 := rfl
      clear hp
      go_wp2_with (go_at_call 119; refine (refBlock2_any x y _).mono ?_; rintro e w5 ⟨rfl, hb5⟩; have hB := ((HB0.out.below' hbel).below' hb5); have hr5 : (rowAt w5 (w.heap.size + 1 + 1)).size = 16 := by { rw [hB.row]; rfl }; have hf5 := hB.free; have HB5 := Lib.hid hB; clear hB)
      have hbF : Below w.heap.size w w5 := hb02.trans ((hbel.trans (hb5.mono hbel.size)).mono hb02.size)
      exact bodyPost_ret (results_cell_row rfl _ _ (w.heap.size + 1 + 1) _ _ (0, 0) _ rfl (HB5.out.setRow (cellsB (blk (x, y))).toArray) under_key rfl (cellsB_size _ rfl)) rfl ⟨by rw [HE.out], below_setRow hbF (by omega) _⟩
end Go.Proofs.Ytinpiodfpnbllaa

/- The reference's Derive, Number. -/
namespace Go.Proofs.Ytinpiodfpnbllaa
open Go.RowKit
set_option linter.unusedVariables false
attribute [local go_sem] run_storeCells_key

theorem refTag_zero (t : UInt8) (n : UInt64) (w : World) : Calls Try.prog 114 #[.int .u8 (t.toNat : Int), .int .u64 0, .int .u64 (n.toNat : Int)] w fun e w' => e = .returned (.agg (cellsB (tagS t 0 n)).toArray) ∧ Below w.heap.size w w' := refTag_any t 0 n w (by decide)
set_option maxHeartbeats 1000000 in
theorem refDerive_any (k : List UInt8) (t : UInt8) (n : UInt64) (w : World) (hk : k.length = 16) : Calls Try.prog 57 #[.agg (cellsB k).toArray, .int .u8 (t.toNat : Int), .int .u64 (n.toNat : Int)] w fun e w' => e = .returned (.agg (cellsB (derS k t n)).toArray) ∧ Below w.heap.size w w' := by
  have HK := Lib.hid hk
  have HZ := Lib.hid zero16
  have hkl : (cellsB k).length = 16 := by rw [cellsB_length, hk]
  have HE : Hid (derS k t n = encS k (tagS t 0 n)) := rfl
  have hl : (cellsB (encS k (tagS t 0 n))).length = 16 := rfl
  have hall := all16 (encS k (tagS t 0 n))
  clear hk
  go_enter Try.func57, Try.ntmps57
  go_wp2_with fail
  rw [HZ.out]
  go_region_with (first
    | (go_at_call 114; refine (refTag_zero t n _).mono ?_; rintro e w1 ⟨rfl, hb1⟩; have hck : ∀ j, w1.cell? ⟨w.heap.size, j, none⟩ = (cellsB k).toArray[j]? := fun j => ((blk_b0 w (cellsB k).toArray 23 _).drew.below' hb1).cell j)
    | (go_at_call 56; rw [fold16B k HK.out]; refine (refEncrypt_any k (tagS t 0 n) _ HK.out rfl).mono ?_; rintro e w2 ⟨rfl, hb2⟩; have hB2 := ((blk_b1 w (.cells (cellsB k).toArray 23) (cellsB zeroK).toArray 23).drew.below' hb1).below' hb2; have hr2 : (rowAt w2 (w.heap.size + 1)).size = 16 := by { rw [hB2.row]; rfl }; have hf2 := hB2.free; have HB2 := Lib.hid hB2; clear hB2))
  all_goals
    go_wp2_with fail
    exact bodyPost_ret (results_cell_row rfl _ _ (w.heap.size + 1) _ _ (0, 0) _ rfl (HB2.out.setRow (cellsB (encS k (tagS t 0 n))).toArray) under_key rfl (cellsB_size _ rfl)) rfl ⟨by rw [HE.out], below_setRow (((alloc2_bel w _ _).drew.trans (hb1.mono (alloc2_bel w _ _).size)).trans (hb2.mono (Nat.le_trans (alloc2_bel w _ _).size hb1.size))) (by omega) _⟩

end Go.Proofs.Ytinpiodfpnbllaa

/- The reference's portions. -/
namespace Go.Proofs.Ytinpiodfpnbllaa
open Go.RowKit
set_option linter.unusedVariables false
attribute [local go_sem] run_storeCells_key

/-- Where a cut 's[n:]' of bytes leads. -/
def dropP (A : Option Addr) (n c : Nat) : Option Addr := if c = n then A else A.map fun x => x.add n
theorem slice_bytes_from (W : World) (A : Option Addr) (m c n : Nat) (h : n ≤ m) :
    (Instr.slice 24 (.slice A m c) (some (.int .i64 (n : Int))) none none).run Try.prog W = .ok (.slice (dropP A n c) (m - n) (c - n)) W := by
  have e : Try.prog.elem 24 = 5 := by kernel_rfl
  rw [run_slice_l (P := Try.prog) (w := W) 24 A m c (by rw [e]; exact Try.underlying24) .i64 n (by omega) (by omega), e, Try.sizeOf5 W]
  simp [Result.andThen, sliced, dropP]
theorem BR.drop {w : World} {A : Option Addr} {c : Nat} {l : List UInt8} (h : BR w A c l) (n : Nat) (hn : n ≤ l.length) : BR w (dropP A n c) (c - n) (l.drop n) := by
  have h1 := Rd.le h
  have h2 := Rd.cap h
  have h3 := Rd.len h
  refine ⟨⟨by rw [cellsB_length, Nat.mul_one], by rw [List.length_drop]; omega, by omega, by rw [List.length_drop]; omega⟩, fun hne => ?_⟩
  rw [List.length_drop] at hne
  obtain ⟨b, off, e, hb, hc⟩ := h.2 (by omega)
  refine ⟨b, off + n, by rw [dropP, if_neg (by omega), e]; simp [Addr.add], hb, fun j v hv => ?_⟩
  rw [Nat.add_assoc]
  refine hc (n + j) v ?_
  rw [← hv]
  simp [cellsB, List.getElem?_drop]

theorem portions_any (A : Option Addr) (c L : Nat) (w : World) (hL : (L : Int) ≤ 140737488351232) : Calls Try.prog 111 #[.slice A L c] w fun e w' => e = .returned (.int .i64 (((L + 15) / 16 : Nat) : Int)) ∧ w = w' := by
  go_enter Try.func111, Try.ntmps111
  go_wp2_with fail
  go_ret
  exact ⟨by simp, rfl⟩

set_option maxHeartbeats 1000000 in
set_option maxRecDepth 100000 in
theorem portion_any (A : Option Addr) (c : Nat) (b : List UInt8) (i : Nat) (w : World) {L : Nat} (hL : b.length = L) (h : BR w A c b) (hi : 16 * i ≤ L) :
    Calls Try.prog 113 #[.slice A L c, .int .i64 (i : Int)] w fun e w' => e = .returned (.agg (cellsB (padK (b.drop (16 * i)))).toArray) ∧ Below w.heap.size w w' := by
  have hl0 : (L : Int) ≤ 140737488351232 := by have := h.len; omega
  have HZ := Lib.hid zero16
  have hi0 : (i : Int) * 16 ≤ 140737488351232 := by omega
  have hi1 : 16 * (i : Int) ≤ 140737488351232 := by omega
  have hi2 : (i : Int) ≤ 140737488351232 := by omega
  have hsl : ∀ W, (Instr.slice 24 (.slice A L c) (some (.int .i64 (16 * (i : Int)))) none none).run Try.prog W = .ok (.slice (dropP A (16 * i) c) (L - 16 * i) (c - 16 * i)) W := fun W => by
    have := slice_bytes_from W A L c (16 * i) hi
    rw [Int.natCast_mul] at this
    exact this
  have H := Lib.hid (h.drop (16 * i) (by omega))
  have HN : Hid ((b.drop (16 * i)).length = L - 16 * i) := by unfold Hid; rw [List.length_drop, hL]
  have hl : (cellsB (padK (b.drop (16 * i)))).length = 16 := by rw [cellsB_length]; rfl
  have hall := all16 (padK (b.drop (16 * i)))
  obtain ⟨d, hd⟩ : ∃ d, b.drop (16 * i) = d := ⟨_, rfl⟩
  rw [hd] at H HN hl hall ⊢
  clear h hL hi hd
  go_enter Try.func113, Try.ntmps113
  go_wp2_with (go_at_call 145; refine (refKey_any _ _ d _ HN.out (H.out.below (alloc_bel _ _))).mono ?_; rintro e w1 ⟨rfl, hb1⟩; rw [HZ.out] at hb1; have hB1 := (Blk.new w 23 (cellsB zeroK).toArray).below' hb1; have hr1 : (rowAt w1 w.heap.size).size = 16 := by { rw [hB1.row]; rfl }; have hf1 := hB1.free; have HB1 := Lib.hid hB1; clear hB1)
  exact bodyPost_ret (results_cell_row rfl _ _ w.heap.size _ _ (0, 0) _ rfl (HB1.out.setRow (cellsB (padK d)).toArray) under_key rfl (cellsB_size _ (by simpa [cellsB] using hl))) rfl ⟨rfl, below_setRow ((alloc_bel w _).trans (hb1.mono (alloc_bel w (.cells (cellsB zeroK).toArray 23)).size)) (Nat.le_refl _) _⟩
end Go.Proofs.Ytinpiodfpnbllaa

/- The stream portion by portion, in plain words. -/
namespace Go.Proofs.Ytinpiodfpnbllaa
open Go.RowKit
set_option linter.unusedVariables false

theorem stream_at {k : List UInt8} {n : UInt64} {b : List UInt8} {i j : Nat} (hj : j < 16) (h : 16 * i + j < b.length) : (xorS (padK (b.drop (16 * i))) (encS k (tagS 1 (UInt64.ofNat i) n))).getD j 0 = stB1 k n b (16 * i + j) := by
  unfold stB1
  rw [show (16 * i + j) / 16 = i from by omega, show (16 * i + j) % 16 = j from by omega]
  simp [xorS, padK, List.getD, List.getElem?_range hj, List.getElem?_drop]
theorem stream_take {k : List UInt8} {n : UInt64} {b : List UInt8} {m : Nat} (h : m < b.length) : (streamS k n b).take (m + 1) = (streamS k n b).take m ++ [stB1 k n b m] := by
  rw [List.take_succ_eq_append_getElem (by rw [streamS_length]; exact h)]
  simp [streamS]
theorem stream_all {k : List UInt8} {n : UInt64} {b : List UInt8} {m : Nat} (h : b.length ≤ m) : (streamS k n b).take m = streamS k n b := List.take_of_length_le (by rw [streamS_length]; exact h)
end Go.Proofs.Ytinpiodfpnbllaa

/- The check of a content key: the program's. -/
namespace Go.Proofs.Ytinpiodfpnbllaa
open Go.RowKit
set_option linter.unusedVariables false
attribute [local go_sem] run_storeCells_key

/-- The check of a content key. -/
def chkS (k : List UInt8) : List UInt8 := derS k 53 0
set_option maxHeartbeats 1000000 in
set_option maxRecDepth 100000 in
theorem check_any (k : List UInt8) (w : World) (hk : k.length = 16) : Calls Try.prog 54 #[.agg (cellsB k).toArray] w fun e w' => e = .returned (.agg (cellsB (chkS k)).toArray) ∧ Below w.heap.size w w' := by
  have HK := Lib.hid hk
  have hkl : (cellsB k).length = 16 := by rw [cellsB_length, hk]
  have HZ := Lib.hid zero16
  have HD : Hid (∀ W, Calls Try.prog 110 #[.agg (cellsB k).toArray, .int .u8 53, .int .u64 0] W fun e w' => e = .returned (.agg (cellsB (chkS k)).toArray) ∧ Below W.heap.size W w') := fun W => Derive_any k 53 0 W hk
  have hl : (cellsB (chkS k)).length = 16 := rfl
  have hall := all16 (chkS k)
  clear hk
  go_enter Try.func54, Try.ntmps54
  go_wp2_with (go_at_call 110; rw [fold16B k HK.out, HZ.out]; refine (HD.out _).mono ?_; rintro e w1 ⟨rfl, hb1⟩; have hB1 := (blk_b1 w (.cells (cellsB k).toArray 23) (cellsB zeroK).toArray 23).below' hb1; have hr1 : (rowAt w1 (w.heap.size + 1)).size = 16 := by { rw [hB1.row]; rfl }; have hf1 := hB1.free; have HB1 := Lib.hid hB1; clear hB1)
  exact bodyPost_ret (results_cell_row rfl _ _ (w.heap.size + 1) _ _ (0, 0) _ rfl (HB1.out.setRow (cellsB (chkS k)).toArray) under_key rfl (cellsB_size _ rfl)) rfl ⟨rfl, below_setRow ((alloc2_bel w _ _).trans (hb1.mono (alloc2_bel w _ _).size)) (by omega) _⟩
end Go.Proofs.Ytinpiodfpnbllaa

/- Recordings, in plain words. -/
namespace Go.Proofs.Ytinpiodfpnbllaa
open Go.RowKit
set_option linter.unusedVariables false

/-- A recording, or the error. -/
structure RecV where
  x : List UInt8
  c : List UInt8
  d : List UInt8
  e : Int
/-- No recording. -/
def noRec (e : Int) : RecV := ⟨zeroK, zeroK, [], e⟩
def recS (k y b : List UInt8) : RecV := if 16384 < b.length then noRec 4 else ⟨encS k y, chkS y, streamS y 0 b, 0⟩
def rekS (k a x c b : List UInt8) : RecV := if chkS (decS k x) = c then ⟨encS a (decS k x), c, b, 0⟩ else noRec 53
def plyS (k x c b : List UInt8) : List UInt8 × Int := if 16384 < b.length then ([], 4) else if chkS (decS k x) = c then (streamS (decS k x) 0 b, 0) else ([], 53)
/-- What is handed back, in memory of the call's own. -/
def RecErr (B : Nat) (r : RecV) (e : Ending) (w' : World) : Prop := ∃ A c, e = .returned (.tuple #[.agg (recC r.x r.c A r.d.length c).toArray, .int .i64 r.e]) ∧ OB B w' A c r.d
theorem chkS_length (k : List UInt8) : (chkS k).length = 16 := rfl
theorem recS_x (k y b : List UInt8) : (recS k y b).x.length = 16 := by unfold recS noRec; split <;> rfl
theorem recS_c (k y b : List UInt8) : (recS k y b).c.length = 16 := by unfold recS noRec; split <;> rfl
theorem recS_d (k y b : List UInt8) : (recS k y b).d.length ≤ b.length := by
  unfold recS noRec
  split
  · simp
  · simp [streamS_length]
theorem rekS_x (k a x c b : List UInt8) : (rekS k a x c b).x.length = 16 := by unfold rekS noRec; split <;> rfl
theorem rekS_c (k a x c b : List UInt8) (hc : c.length = 16) : (rekS k a x c b).c.length = 16 := by
  unfold rekS noRec
  split
  · exact hc
  · rfl
theorem rekS_d (k a x c b : List UInt8) : (rekS k a x c b).d.length ≤ b.length := by
  unfold rekS noRec
  split <;> simp
theorem plyS_l (k x c b : List UInt8) : (plyS k x c b).1.length ≤ b.length := by
  unfold plyS
  split
  · simp
  · split
    · simp [streamS_length]
    · simp
end Go.Proofs.Ytinpiodfpnbllaa

/- A recording, made of its parts. -/
namespace Go.Proofs.Ytinpiodfpnbllaa
open Go.RowKit
set_option linter.unusedVariables false

theorem fill_step (place : Nat → Option (Nat × Nat)) (cells : Array Value) (i off size : Nat) (v : Value) (vs : List Value) (rest : List (Nat × Value)) (hp : place i = some (off, size)) (hv : v.cells = vs.toArray) (hs : vs.length = size) (hf : off + size ≤ cells.size) :
    Instr.fill place cells ((i, v) :: rest) = Instr.fill place (cells.toList.take off ++ (vs ++ cells.toList.drop (off + size))).toArray rest := by
  rw [Instr.fill, hp]
  simp only [hv, List.size_toArray]
  rw [if_neg (by simp [hs]; omega)]
  congr 1
  have e := Great.foldl_set off vs 0 cells
  rw [← Array.foldl_toList, Array.toList_zipIdx]
  apply Array.ext_getElem?
  intro k
  rw [e.2 k]
  simp only [List.getElem?_toArray, List.getElem?_append, List.length_take, Array.length_toList, List.getElem?_take, List.getElem?_drop, Array.getElem?_toList]
  by_cases h1 : k < off
  · rw [if_neg (by omega), if_pos (by omega), if_pos h1]
  · rw [if_neg (show ¬ k < min off cells.size by omega)]
    rw [show min off cells.size = off from by omega]
    by_cases h2 : k - off < vs.length
    · rw [if_pos (by omega), if_pos h2, Nat.add_zero]
    · rw [if_neg (by omega), if_neg h2, show off + size + (k - off - vs.length) = k from by omega]
theorem built_rec (x c : List UInt8) (A : Option Addr) (n cap : Nat) (hx : x.length = 16) (hc : c.length = 16) :
    Try.prog.built 26 [(0, .agg (cellsB x).toArray), (1, .agg (cellsB c).toArray), (2, .slice A n cap)] = some (recC x c A n cap).toArray := by
  have hxl : (cellsB x).length = 16 := by rw [cellsB_length, hx]
  have hcl : (cellsB c).length = 16 := by rw [cellsB_length, hc]
  have e : Try.prog.built 26 [(0, .agg (cellsB x).toArray), (1, .agg (cellsB c).toArray), (2, .slice A n cap)] = Instr.fill ((#[(0, 16), (16, 16), (32, 1)] : Array (Nat × Nat))[·]?) (recC zeroK zeroK none 0 0).toArray [(0, .agg (cellsB x).toArray), (1, .agg (cellsB c).toArray), (2, .slice A n cap)] := by kernel_rfl
  rw [e]
  obtain ⟨z, hz', hz⟩ : ∃ z : Array Value, (recC zeroK zeroK none 0 0).toArray = z ∧ z.size = 33 := ⟨_, rfl, rfl⟩
  rw [hz']
  rw [fill_step _ z 0 0 16 _ (cellsB x) _ rfl rfl hxl (by omega)]
  have s1 : (z.toList.take 0 ++ (cellsB x ++ z.toList.drop (0 + 16))).length = 33 := by simp [hxl, hz]
  rw [fill_step _ _ 1 16 16 _ (cellsB c) _ rfl rfl hcl (by rw [List.size_toArray, s1]; omega)]
  have s2 : (((z.toList.take 0 ++ (cellsB x ++ z.toList.drop (0 + 16))).toArray.toList.take 16 ++ (cellsB c ++ (z.toList.take 0 ++ (cellsB x ++ z.toList.drop (0 + 16))).toArray.toList.drop (16 + 16)))).length = 33 := by simp [hxl, hcl, hz]
  rw [fill_step _ _ 2 32 1 _ [.slice A n cap] _ rfl rfl rfl (by rw [List.size_toArray, s2]; omega)]
  rw [Instr.fill]
  refine congrArg (fun l => some (List.toArray l)) ?_
  simp [List.take_append, List.drop_append, List.take_of_length_le, List.drop_of_length_le, hxl, hcl, hz, recC]

theorem free_blk {w : World} {g : Nat} (hf : rowFree w g = true) : ∃ t, Blk w g t (rowAt w g) := by
  unfold rowFree at hf
  unfold Blk rowAt
  split at hf
  · rename_i cs t fr he
    have : fr = (0, 0) := by simpa using hf
    subst this
    exact ⟨t, by rw [he]⟩
  · cases hf
theorem run_storeCells_rec {P : Program} (w : World) (g : Nat) (l : List Value) (hl : l.length = 33) (h1 : l.all (·.oneCell') = true) (h : (rowAt w g).size = 33) (hf : rowFree w g = true) : (storeCells ⟨g, 0, none⟩ l 0).run P w = .ok () (w.setRow g l.toArray) := by
  obtain ⟨t, he⟩ := free_blk hf
  exact run_storeCells_from (P := P) g t l 0 _ w he (by omega) (fun v hv => List.all_eq_true.1 h1 v hv)
theorem zero33 : (#[.int .u8 0, .int .u8 0, .int .u8 0, .int .u8 0, .int .u8 0, .int .u8 0, .int .u8 0, .int .u8 0, .int .u8 0, .int .u8 0, .int .u8 0, .int .u8 0, .int .u8 0, .int .u8 0, .int .u8 0, .int .u8 0, .int .u8 0, .int .u8 0, .int .u8 0, .int .u8 0, .int .u8 0, .int .u8 0, .int .u8 0, .int .u8 0, .int .u8 0, .int .u8 0, .int .u8 0, .int .u8 0, .int .u8 0, .int .u8 0, .int .u8 0, .int .u8 0, .slice none 0 0] : Array Value) = (recC zeroK zeroK none 0 0).toArray := rfl
theorem recC_all (x c : List UInt8) (A : Option Addr) (n cap : Nat) : (recC x c A n cap).all (·.oneCell') = true := by
  rw [List.all_eq_true]
  intro v hv
  rw [recC, List.mem_append, List.mem_append] at hv
  rcases hv with hv | hv | hv
  · exact cells_one x v hv
  · exact cells_one c v hv
  · rw [List.mem_singleton] at hv; subst hv; rfl
section
variable {P : Program} {md : Region.Mode} {ops : Array Oper} {Q : Exit → Act → World → Prop} {S : World → Prop} {fuel : Nat} {listed : Array Bool} {a : Act} {w : World}
/-- A value is made of its parts. -/
theorem hd_build (i : Nat) {oi : Oper} (t : TypeId) (parts : Array (Nat × Operand)) (vs : List (Nat × Value)) (cells : Array Value) (hi : ops[i]? = some oi) (ho : oi.op = .build t parts) (hg : oi.guard = none)
    (hs : Region.noSelect ops = true) (hf : Region.free md ops listed i = true) (hr : (Region.ready md ops listed).contains i = true) (hQ : ∀ c a w, Q (.panic c) (a.put oi.dst (.agg cells)) w → Q (.panic c) a w)
    (hv : (parts.map fun (i, x) => (i, a.eval x)).toList = vs) (hb : P.built t vs = some cells) (hw : S w)
    (h : wpAnyH P md ops Q S fuel (listed.setIfInBounds i true) (a.put oi.dst (.agg cells)) w) : wpAnyH P md ops Q S (fuel + 1) listed a w :=
  hd_take i (.agg cells) hi hg hs hf hr hQ (fun w _ => by
    unfold execOp
    rw [ho]
    simp only [Sem.run_bind, run_build w t _ cells (by rw [hv]; exact hb), Result.andThen_ok]
    rfl) hw h
theorem hd_build3 (i : Nat) {oi : Oper} (t : TypeId) (v0 v1 v2 : Value) (cells : Array Value) (x0 x1 x2 : Operand) (hi : ops[i]? = some oi) (ho : oi.op = .build t #[(0, x0), (1, x1), (2, x2)]) (hg : oi.guard = none)
    (hs : Region.noSelect ops = true) (hf : Region.free md ops listed i = true) (hr : (Region.ready md ops listed).contains i = true) (hQ : ∀ c a w, Q (.panic c) (a.put oi.dst (.agg cells)) w → Q (.panic c) a w)
    (h0 : a.eval x0 = v0) (h1 : a.eval x1 = v1) (h2 : a.eval x2 = v2) (hb : P.built t [(0, v0), (1, v1), (2, v2)] = some cells) (hw : S w)
    (h : wpAnyH P md ops Q S fuel (listed.setIfInBounds i true) (a.put oi.dst (.agg cells)) w) : wpAnyH P md ops Q S (fuel + 1) listed a w :=
  hd_build i t _ _ cells hi ho hg hs hf hr hQ (by simp [h0, h1, h2]) hb hw h
end
theorem OB.low {B : Nat} {w : World} {A : Option Addr} {c : Nat} {l : List UInt8} (h : OB B w A c l) {g : Nat} (hg : g < B) (cs : Array Value) : OB B (w.setRow g cs) A c l :=
  ⟨h.1, h.2.elim Or.inl (fun ⟨g', cap, cur, hv, hB, hh, r⟩ => Or.inr ⟨g', cap, cur, hv, hB, by rw [← hh]; exact setRow_other w g g' cs (by omega), r⟩)⟩
end Go.Proofs.Ytinpiodfpnbllaa

/- A list of one key, made. -/
namespace Go.Proofs.Ytinpiodfpnbllaa
open Go.RowKit
set_option linter.unusedVariables false

theorem run_build_key (w : World) (k : List UInt8) (hk : k.length = 16) : (Instr.buildSlice 40 1 #[(0, .agg (cellsB k).toArray)]).run Try.prog w = .ok (.slice (some ⟨w.heap.size, 0, none⟩) 1 1) (w.alloc (.cells (cellsB k).toArray 23)) := by
  obtain ⟨i0, hi0, hz0, hz1, hz2⟩ := info_parts key_info3
  have hl : (cellsB k).length = 16 := by rw [cellsB_length, hk]
  refine run_buildSlice (P := Try.prog) w 40 23 1 #[(0, .agg (cellsB k).toArray)] (cellsB k).toArray i0 (.agg (cellsB zeroK).toArray) Try.underlying40 hi0 hz0 (by rw [hz1]; omega) (by rw [hz1]; omega) ?_
  rw [hz1]
  obtain ⟨z, hz, hzs⟩ : ∃ z, Array.map (fun x => (Value.agg (cellsB zeroK).toArray).cells[x % (Value.agg (cellsB zeroK).toArray).cells.size]!) (Array.range (1 * 16)) = z ∧ z.size = 16 := ⟨_, rfl, by simp⟩
  rw [hz]
  rw [show (#[(0, Value.agg (cellsB k).toArray)] : Array (Nat × Value)).toList = [(0, .agg (cellsB k).toArray)] from rfl, fill_step _ z 0 0 16 _ (cellsB k) _ rfl rfl hl (by omega), Instr.fill]
  refine congrArg (fun l => some (List.toArray l)) ?_
  simp [List.drop_of_length_le, hzs]
theorem op_buildKey {ops : Array Oper} {Q : Exit → Act → World → Prop} {a : Act} {w : World} {i : Nat} {oi : Oper} {K : Act → World → Prop} (k : List UInt8) (x : Operand) (hk : k.length = 16) (hi : ops[i]? = some oi) (ho : oi.op = .buildSlice 40 1 #[(0, x)]) (hg : oi.guard = none) (hx : a.eval x = .agg (cellsB k).toArray)
    (h : K (a.put oi.dst (.slice (some ⟨w.heap.size, 0, none⟩) 1 1)) (w.alloc (.cells (cellsB k).toArray 23))) : wpOp Try.prog ops Q i K a w :=
  op_run _ _ hi hg (by
    unfold execOp
    rw [ho]
    simp only [List.map_toArray, List.map_cons, List.map_nil, hx, Sem.run_bind, run_build_key w k hk, Result.andThen_ok]
    rfl) h
end Go.Proofs.Ytinpiodfpnbllaa

/- A region that draws its order, whose operations only read but for one that waits for all the others (a store at the end): one walk of the text's order, then the last one. -/
namespace Go.Proofs.Ytinpiodfpnbllaa
open Go.RowKit
set_option linter.unusedVariables false

section
variable {P : Program} {ops : Array Oper} {md : Region.Mode} {C : World → Prop}

/-- Operation m waits for each other one that has not come up yet. -/
def waitsAll (md : Region.Mode) (ops : Array Oper) (m : Nat) (listed : Array Bool) : Prop := ∀ s, ops[m]? = some s → ∀ k, k ≠ m → listed.getD k true = false → ∃ e ∈ s.after, Region.binds md e = true ∧ e.on = k
def waitsAllB (md : Region.Mode) (ops : Array Oper) (m : Nat) (listed : Array Bool) : Bool := match ops[m]? with
  | none => true
  | some s => (List.range listed.size).all fun k => k == m || listed.getD k true || s.after.any fun e => Region.binds md e && e.on == k
theorem waitsAll_of {m : Nat} {listed : Array Bool} (h : waitsAllB md ops m listed = true) : waitsAll md ops m listed := by
  intro s hs k hk hl
  unfold waitsAllB at h
  rw [hs] at h
  have hlt : k < listed.size := by
    rcases Nat.lt_or_ge k listed.size with h' | h'
    · exact h'
    · simp [Array.getD, Nat.not_lt.2 h'] at hl
  have := List.all_eq_true.1 h k (List.mem_range.2 hlt)
  rw [hl] at this
  simp only [Bool.or_false, Bool.or_eq_true, beq_iff_eq] at this
  rcases this with h1 | h1
  · exact absurd h1 hk
  · obtain ⟨e, he, h2⟩ := Array.any_eq_true'.1 h1
    simp only [Bool.and_eq_true, beq_iff_eq] at h2
    exact ⟨e, he, h2.1, h2.2⟩
theorem waitsAll.set {m : Nat} {listed : Array Bool} (h : waitsAll md ops m listed) (j : Nat) : waitsAll md ops m (listed.setIfInBounds j true) := by
  intro s hs k hk hl
  refine h s hs k hk ?_
  by_cases hjk : j = k
  · subst hjk
    rcases Nat.lt_or_ge j listed.size with h' | h'
    · simp [Array.getD, h'] at hl
    · simp [Array.getD, Nat.not_lt.2 h'] at hl
  · rw [getD_set_ne true hjk] at hl; exact hl

/-- Whatever order is picked, up to the last one. -/
def wpAnyE (P : Program) (md : Region.Mode) (ops : Array Oper) (C : World → Prop) (m : Nat) (Q : Act → Prop) : Nat → Array Bool → Act → Prop
  | 0, _, _ => False
  | fuel + 1, listed, a => Region.ready md ops listed ≠ [] ∧ ∀ i ∈ Region.ready md ops listed, if i = m then Q a else qOp P ops C i (wpAnyE P md ops C m Q fuel (listed.setIfInBounds i true)) a

theorem ready_done {m : Nat} {listed : Array Bool} (hm : m ∈ Region.ready md ops listed) (hw : waitsAll md ops m listed) : Region.ready md ops (listed.setIfInBounds m true) = [] := by
  apply List.eq_nil_iff_forall_not_mem.2
  intro i hi
  obtain ⟨hun, oi, hoi, _⟩ := mem_ready.1 hi
  obtain ⟨hmun, om, hom, hall⟩ := mem_ready.1 hm
  by_cases him : i = m
  · subst him
    rcases Nat.lt_or_ge i listed.size with h' | h'
    · simp [Array.getD, h'] at hun
    · simp [Array.getD, Nat.not_lt.2 h'] at hun
  · rw [getD_set_ne true (Ne.symm him)] at hun
    obtain ⟨e, he, hb, hon⟩ := hw om hom i him hun
    have h1 := hall e he hb
    rw [hon] at h1
    rcases Nat.lt_or_ge i listed.size with h' | h'
    · simp [Array.getD, h'] at hun h1
      rw [hun] at h1; cases h1
    · simp [Array.getD, Nat.not_lt.2 h'] at hun

theorem wpAny_of_end {m : Nat} {Q : Act → Prop} {Q' : Exit → Act → World → Prop} (hQ : ∀ a w, C w → Q a → wpOp P ops Q' m (fun a' w' => Q' .normal a' w') a w) : ∀ (fuel : Nat) (listed : Array Bool) (a : Act) (w : World), C w → waitsAll md ops m listed →
    wpAnyE P md ops C m Q fuel listed a → wpAny P md ops Q' fuel listed a w
  | 0, _, _, _, _, _, h => h.elim
  | fuel + 1, listed, a, w, hw, hI, h => ⟨fun h0 => absurd h0 h.1, fun i hi => by
    have h2 := h.2 i hi
    by_cases him : i = m
    · subst him
      rw [if_pos rfl] at h2
      have h3 := hQ a w hw h2
      have hd := ready_done hi hI
      have hk : ∀ a' w', Q' .normal a' w' → wpAny P md ops Q' fuel (listed.setIfInBounds i true) a' w' := fun a' w' hq => by
        cases fuel with
        | zero => exact ⟨hd, hq⟩
        | succ f => exact ⟨fun _ => hq, fun j hj => by rw [hd] at hj; cases hj⟩
      unfold wpOp at h3 ⊢
      split
      · rename_i ho; simp only [ho] at h3; exact hk _ _ h3
      · rename_i o ho
        simp only [ho] at h3
        split
        · rename_i hwt; simp only [hwt, if_true] at h3; exact h3.imp (Oper.wp_mono hk) id
        · rename_i hwt; simp only [hwt] at h3; exact hk _ _ h3
    · rw [if_neg him] at h2
      exact wpOp_of_qOp hw (fun a' w' hw' => wpAny_of_end hQ fuel _ a' w' hw' (hI.set i)) h2⟩

theorem wpAnyE_first {m : Nat} {Q : Act → Prop} {i : Nat} {oi : Oper} {v : Value} (him : i ≠ m) (hi : ops[i]? = some oi) (hsel : ∀ (j : Nat) (o : Oper) cs b, ops[j]? = some o → o.op ≠ .select cs b) :
    ∀ (fuel : Nat) (listed : Array Bool) (a : Act), waitsAll md ops m listed →
      (∀ j oj, ops[j]? = some oj → j ≠ i → listed.getD j true = false → (∀ e ∈ oj.after, Region.binds md e = true → e.on ≠ i) → oi.apart ops oj = true) →
      i ∈ Region.ready md ops listed → YieldsIn P ops C oi v a →
      wpAnyE P md ops C m Q fuel (listed.setIfInBounds i true) (a.put oi.dst v) → wpAnyE P md ops C m Q (fuel + 1) listed a := by
  intro fuel
  induction fuel with
  | zero => intro listed a _ _ _ _ H; exact H.elim
  | succ fuel ih =>
    intro listed a hI hfree hr hy H
    refine ⟨fun h => (by rw [h] at hr; cases hr), fun j hj => ?_⟩
    by_cases hji : j = i
    · subst hji; rw [if_neg him]; exact hy.qOp hi H
    · have h1 := H.2 j (ready_mono hj hji)
      obtain ⟨hjun, oj, hoj, hall⟩ := mem_ready.1 hj
      have hnot : ∀ e ∈ oj.after, Region.binds md e = true → e.on ≠ i := fun e he hb heq => by
        have h1 := hall e he hb
        have h0 := (mem_ready.1 hr).1
        rw [heq] at h1
        rcases Nat.lt_or_ge i listed.size with h' | h'
        · simp [h'] at h0 h1; rw [h0] at h1; cases h1
        · simp [Array.getElem?_eq_none h'] at h1
      by_cases hjm : j = m
      · subst hjm
        obtain ⟨e, he, hb, hon⟩ := hI oj hoj i him (mem_ready.1 hr).1
        exact absurd hon (hnot e he hb)
      · rw [if_neg hjm] at h1 ⊢
        have h2 := qOp_put hoj (hfree j oj hoj hji hjun hnot) (fun cs b => hsel i oi cs b hi) (fun cs b => hsel j oj cs b hoj) hy h1
        have hfree' : ∀ k ok, ops[k]? = some ok → k ≠ i → (listed.setIfInBounds j true).getD k true = false →
            (∀ e ∈ ok.after, Region.binds md e = true → e.on ≠ i) → oi.apart ops ok = true := fun k ok hk hki hun hno => by
          refine hfree k ok hk hki ?_ hno
          by_cases hjk : j = k
          · subst hjk; exact hjun
          · rw [getD_set_ne true hjk] at hun; exact hun
        refine qOp_mono (fun a' h3 => ih (listed.setIfInBounds j true) a' (hI.set j) hfree' (ready_mono hr (Ne.symm hji)) h3.1 ?_) h2
        rw [Array.setIfInBounds_comm _ _ hji]
        exact h3.2

/-- The text's order, up to the last one, by a Bool. -/
def lexTo (md : Region.Mode) (ops : Array Oper) (m : Nat) : Nat → Nat → Array Bool → Bool
  | 0, _, listed => (Region.ready md ops listed) == [m]
  | fuel + 1, k, listed => k != m && (Region.ready md ops listed).contains k && Region.free md ops listed k && lexTo md ops m fuel (k + 1) (listed.setIfInBounds k true)

theorem wpAnyE_lex {m : Nat} {Q : Act → Prop} (hs : Region.noSelect ops = true) : ∀ (l : List Oper) (k : Nat) (listed : Array Bool) (a : Act), (∀ j, j < l.length → l[j]? = ops[k + j]?) → waitsAll md ops m listed →
    lexTo md ops m l.length k listed = true → wpQuiet P ops C Q l a → wpAnyE P md ops C m Q (l.length + 1) listed a
  | [], _, listed, _, _, _, hB, h => by
    have hr : Region.ready md ops listed = [m] := by simpa [lexTo] using hB
    exact ⟨by rw [hr]; simp, fun i hi => by rw [hr, List.mem_singleton] at hi; rw [if_pos hi]; exact h⟩
  | o :: l, k, listed, a, hl, hI, hB, h => by
    have h0 : ops[k]? = some o := by simpa using (hl 0 (by simp)).symm
    simp only [List.length_cons, lexTo, Bool.and_eq_true, bne_iff_ne, ne_eq] at hB
    obtain ⟨⟨⟨hkm, hr⟩, hf⟩, hB'⟩ := hB
    have hst : qOp P ops C k (wpQuiet P ops C Q l) a := by unfold qOp; simp only [h0]; exact h
    obtain ⟨v, hy, hK⟩ := yieldsIn_of_qOp h0 hst
    exact wpAnyE_first hkm h0 (Region.noSelect_spec hs) (l.length + 1) listed a hI (Region.free_spec h0 hf) (by simpa using hr) hy
      (wpAnyE_lex hs l (k + 1) _ _ (fun j hj => by have := hl (j + 1) (by simp; omega); simpa [Nat.add_assoc, Nat.add_comm 1 j] using this) (hI.set k) hB' hK)

/-- From a state in which some have come up already: the text's order up to operation m, then m. -/
theorem wpAny_end {m : Nat} {Q' : Exit → Act → World → Prop} {listed : Array Bool} {a : Act} {w : World} (l : List Oper) {fuel : Nat} (hf : fuel = l.length + 1) (hs : Region.noSelect ops = true) (hl : ops.toList.take l.length = l) (hI : waitsAllB md ops m listed = true) (hB : lexTo md ops m l.length 0 listed = true) (hC : C w)
    (h : wpQuiet P ops C (fun a' => ∀ w', C w' → wpOp P ops Q' m (fun a'' w'' => Q' .normal a'' w'') a' w') l a) : wpAny P md ops Q' fuel listed a w := by
  subst hf
  refine wpAny_of_end (fun a w hw hq => hq w hw) _ _ _ _ hC (waitsAll_of hI) (wpAnyE_lex hs l 0 listed a (fun j hj => ?_) (waitsAll_of hI) hB h)
  rw [Nat.zero_add, ← Array.getElem?_toList, ← hl, List.getElem?_take]
  have hj' := hj
  rw [← hl, List.length_take] at hj'
  simp [hj]
theorem wpOp_of_wp {Q : Exit → Act → World → Prop} {m : Nat} {o : Oper} {K : Act → World → Prop} {a : Act} {w : World} (ho : ops[m]? = some o) (hg : o.guard = none) (h : o.wp P a w K Q) : wpOp P ops Q m K a w := by
  unfold wpOp
  have hw : Region.wanted o (yielded ops a.tmps) = true := by simp [Region.wanted, hg]
  simp only [ho, hw, if_true]
  exact .inl h
/-- The last operation waits for all the others. -/
theorem wp_region_last {id : Nat} (m : Nat) {Q : Exit → Act → World → Prop} {a : Act} {w : World} (hm : P.follows .mixedOrders = true) (hsz : ops.size = m + 1) (hs : Region.noSelect ops = true) (hI : waitsAllB .any ops m (Array.replicate ops.size false) = true) (hB : lexTo .any ops m m 0 (Array.replicate ops.size false) = true) (hC : C w.drew)
    (h : wpQuiet P ops C (fun a' => ∀ w', C w' → wpOp P ops Q m (fun a'' w'' => Q .normal a'' w'') a' w') (ops.toList.take m) a) : (Code.region id ops true).wp P Q a w := by
  have hl : (ops.toList.take m).length = m := by rw [List.length_take, Array.length_toList, hsz]; omega
  exact wp_region_any hm (wpAny_end (C := C) (m := m) (ops.toList.take m) (by rw [hl, hsz]) hs (by rw [hl]) hI (by rw [hl]; exact hB) hC h)
theorem wpOp_store {Q : Exit → Act → World → Prop} {m : Nat} {o : Oper} {K : Act → World → Prop} {a : Act} {w : World} (g : Nat) (cells : Array Value) (ty : TypeId) (x y : Operand) (hi : ops[m]? = some o) (ho : o.op = .store ty x y) (hg : o.guard = none)
    (hx : a.eval x = .pointer (some ⟨g, 0, none⟩)) (hy : a.eval y = .agg cells) {t : TypeId} {old : Array Value} (hb : w.heap[g]? = some (.cells old t (0, 0))) (hn : (P.info? ty).map (·.size) = some cells.size) (hold : old.size = cells.size) (h1 : cells.all (·.oneCell') = true)
    (h : K (a.put o.dst undef) (w.setRow g cells)) : wpOp P ops Q m K a w :=
  wpOp_of_wp hi hg (wp_store_row ty x y ho g cells hx hy t old hb hn hold h1 h)
end
end Go.Proofs.Ytinpiodfpnbllaa

/- A list of keys that the call owns, turned round. -/
namespace Go.Proofs.Ytinpiodfpnbllaa
open Go.RowKit Go.Sort
set_option linter.unusedVariables false

def encK (k : List UInt8) : List Value := cellsB (padK k)
theorem encK_length (k : List UInt8) : (encK k).length = 16 := by rw [encK, cellsB_length, padK_length]
theorem encK_16 {k : List UInt8} (h : k.length = 16) : encK k = cellsB k := by rw [encK, padK_16 h]
theorem flatK_keys {ks : List (List UInt8)} (h : Keys16 ks) : flatK encK 16 ks.toArray = (cellsK ks).toArray := by
  have hl := cellsK_length h
  refine ext_get! (by simp [hl]) fun t ht => ?_
  have ht' : t < ks.length * 16 := by simpa using ht
  have hi : t / 16 < ks.length := by omega
  have hk : ks[t / 16].length = 16 := h _ (List.getElem_mem hi)
  rw [get_flatK _ _ _ _ (by simpa using ht')]
  have e1 : ks.toArray[t / 16]! = ks[t / 16] := by rw [getElem!_pos ks.toArray (t / 16) (by simpa using hi)]; simp
  have hm : t % 16 < (cellsB ks[t / 16]).length := by rw [cellsB_length, hk]; omega
  rw [e1, encK_16 hk, getElem!_pos (cellsB ks[t / 16]) (t % 16) hm, getElem!_pos (cellsK ks).toArray t (by simp [hl]; omega)]
  have h1 := cellsK_drop h (t / 16) (by omega)
  have h2 : ((cellsK ks).drop (t / 16 * 16))[t % 16]? = (cellsB ks[t / 16])[t % 16]? := by
    rw [h1, List.drop_eq_getElem_cons hi]
    unfold cellsK
    rw [List.flatMap_cons, List.getElem?_append_left hm]
  rw [List.getElem?_drop, show t / 16 * 16 + t % 16 = t by omega, List.getElem?_eq_getElem (by omega), List.getElem?_eq_getElem hm] at h2
  simpa using (Option.some.inj h2).symm
theorem Keys16.reverse {ks : List (List UInt8)} (h : Keys16 ks) : Keys16 ks.reverse := fun k hk => h k (List.mem_reverse.1 hk)

theorem holds_of_OK16 {B : Nat} {w : World} {A : Option Addr} {c : Nat} {ks : List (List UInt8)} (h : OK16 B w A c ks) (hk : Keys16 ks) (h0 : ks ≠ []) : ∃ g, A = some ⟨g, 0, none⟩ ∧ B ≤ g ∧ g < w.heap.size ∧ HoldsK encK 16 w g 0 ks.toArray := by
  rcases h.2 with ⟨_, e0⟩ | ⟨g, cap, cur, e0, hb, hg, hn, hm, hs, ht⟩
  · exact absurd (List.eq_nil_of_length_eq_zero e0) h0
  · injection e0 with e1 _ e3
    subst e3
    have hlt : g < w.heap.size := by
      rcases Nat.lt_or_ge g w.heap.size with h' | h'
      · exact h'
      · rw [Array.getElem?_eq_none h'] at hg; cases hg
    refine ⟨g, e1, hb, hlt, ?_⟩
    unfold HoldsK
    rw [flatK_keys hk]
    intro j hj
    have hl := cellsK_length hk
    have hj' : j < ks.length * 16 := by simpa [hl] using hj
    refine ⟨?_, by simp [World.frozen?, hg]⟩
    have e2 : (cur.toList.take (ks.length * 16))[j]? = (cellsK ks)[j]? := by rw [ht]
    rw [List.getElem?_take, if_pos (by omega), Array.getElem?_toList, List.getElem?_eq_getElem (by omega)] at e2
    simp only [World.cell?, hg, Nat.zero_add]
    simp only [Option.isSome_none, Bool.false_eq_true, if_false]
    rw [e2, getElem!_pos _ j (by simpa using hj)]
    simp
theorem OK16.put {B : Nat} {w : World} {g c q : Nat} {ks ys : List (List UInt8)} (h : OK16 B w (some ⟨g, 0, none⟩) c ks) (hk : Keys16 ys) (hl : ys.length = ks.length) : OK16 B (putRowK encK 16 (Sort.ahead w q) g 0 ys.toArray) (some ⟨g, 0, none⟩) c ys := by
  have hcl := cellsK_length hk
  refine ⟨hcl, .inr ?_⟩
  rcases h.2 with ⟨e0, _⟩ | ⟨g', cap', cur, e0, hb, hg, hn, hm, hs, ht⟩
  · cases e0
  · injection e0 with e1 _ e3
    injection e1 with e1
    injection e1 with e1
    subst e1; subst e3
    refine ⟨g, c, putCells id 0 (cellsK ys).toArray cur, rfl, hb, ?_, by omega, hm, by simpa [putCells] using hs, ?_⟩
    · unfold putRowK
      rw [flatK_keys hk]
      simp [putRow, mapBlock, Sort.ahead, Array.getElem?_modify, hg, onCells]
    · apply List.ext_getElem?
      intro j
      rw [List.getElem?_take, Array.getElem?_toList]
      by_cases hj : j < ys.length * 16
      · have hjc : j < cur.size := by omega
        simp only [if_pos hj, putCells, Array.getElem?_mapIdx, Array.getElem?_eq_getElem hjc, Option.map_some]
        rw [if_pos (by simp [hcl]; omega), List.getElem?_eq_getElem (by omega)]
        simp [getElem!_pos, show j < (cellsK ys).length by omega]
      · rw [if_neg hj, List.getElem?_eq_none (by omega)]
theorem below_putK {B : Nat} {w0 w : World} {g q : Nat} {d : Array (List UInt8)} (h : Below B w0 w) (hg : B ≤ g) : Below B w0 (putRowK encK 16 (Sort.ahead w q) g 0 d) := Lib.below_putRow h hg

theorem cells_holdsK {enc : List UInt8 → List Value} {k : Nat} {W : World} {blk off : Nat} {d : Array (List UInt8)} (h : HoldsK enc k W blk off d) (hk : ∀ x, (enc x).length = k) {i : Nat} (hi : i < d.size) :
    ∀ c v, (enc d[i]!)[c]? = some v → W.cell? ((⟨blk, off + i * k, none⟩ : Addr).add c) = some v := fun c v hv => by
  have hc : c < k := by have := (List.getElem?_eq_some_iff.1 hv).1; rwa [hk] at this
  rw [Addr.add_lit, (h.cell hi hc).1, getElem!_pos (enc d[i]!) c (by rw [hk]; exact hc)]
  rw [List.getElem?_eq_getElem (by rw [hk]; exact hc)] at hv
  exact hv
theorem stores_holds (P : Program) {W : World} {blk off : Nat} {F : Array Value} (h : Holds id W blk off F) (s : Nat) (vs : List Value) (hs : s + vs.length ≤ F.size) (h1 : ∀ v ∈ vs, v.oneCell' = true) :
    Sem.run P (storeCells ⟨blk, off + s, none⟩ vs 0) W = .ok () (W.setCells blk (off + s) vs) := by
  have := run_storeCells_cells (P := P) blk (off + s) vs 0 W (fun c hc => by rw [Nat.add_zero, Nat.add_assoc, (h (s + c) (by omega)).1]; rfl) (fun c hc => by rw [Nat.add_zero, Nat.add_assoc]; exact (h (s + c) (by omega)).2) h1
  rwa [Nat.add_zero] at this
theorem run_loadFrom (P : Program) (W : World) (a : Addr) (cs : List Value) (k : Nat) (hk : cs.length = k) (h : ∀ j v, cs[j]? = some v → W.cell? (a.add j) = some v) :
    Sem.run P (loadCellsFrom a 0 k #[]) W = .ok cs.toArray W := by
  have := run_loadCells_list (P := P) (w := W) a cs h
  rw [hk] at this
  simpa [loadCells] using this

section
variable {P : Program} {md : Region.Mode} {ops : Array Oper} {Q : Exit → Act → World → Prop} {S : World → Prop} {fuel : Nat} {listed : Array Bool} {a : Act} {w : World} {K : Act → World → Prop}
/-- A load of a part of a row, at its turn. -/
theorem op_load_mid (i : Nat) {oi : Oper} (g o : Nat) (cs : List Value) (ty : TypeId) (x : Operand) {d : TypeDesc} (hi : ops[i]? = some oi) (ho : oi.op = .load ty x) (hg : oi.guard = none)
    (hx : a.eval x = .pointer (some ⟨g, o, none⟩)) (hc : w.rangeAt g o cs) (hu : P.underlying ty = some d) (hd : d.isRow = true) (hn : (P.info? ty).map (·.size) = some cs.length)
    (h : K (a.put oi.dst (.agg cs.toArray)) w) : wpOp P ops Q i K a w :=
  wpOp_of_wp hi hg (wp_load_mid ty x ho g o hx cs d hc hu hd hn h)
/-- A store into a part of a row, at its turn. -/
theorem op_store_mid (i : Nat) {oi : Oper} (g o : Nat) (cells : Array Value) (ty : TypeId) (x y : Operand) (hi : ops[i]? = some oi) (ho : oi.op = .store ty x y) (hg : oi.guard = none)
    (hx : a.eval x = .pointer (some ⟨g, o, none⟩)) (hy : a.eval y = .agg cells) (ht : w.there g o cells.size) (hn : (P.info? ty).map (·.size) = some cells.size) (h1 : cells.all (·.oneCell') = true)
    (h : K (a.put oi.dst undef) (w.setCells g o cells.toList)) : wpOp P ops Q i K a w :=
  wpOp_of_wp hi hg (wp_store_mid ty x y ho g o cells hx hy ht hn h1 h)
end

theorem info16 {l : List Value} (h : l.length = 16) : (Try.prog.info? 23).map (·.size) = some l.length := by rw [h]; kernel_rfl
set_option maxHeartbeats 4000000 in
set_option maxRecDepth 1000000 in
theorem reverse_row (blk off cap : Nat) (d : Array (List UInt8)) (w : World) (hH : HoldsK encK 16 w blk off d) (hsz : d.size ≤ 140737488351232) :
    Calls Try.prog 73 #[.slice (some ⟨blk, off, none⟩) d.size cap] w fun e w' => e = .returned (.tuple #[]) ∧ ∃ n, w' = putRowK encK 16 (Sort.ahead w n) blk off d.reverse := by
  have h1 : ∀ x, ∀ v ∈ encK x, v.oneCell' = true := fun x => cells_one _
  have hk := encK_length
  have mixed : Try.prog.follows Departure.mixedOrders = true := by kernel_rfl
  go_enter Try.func73, Try.ntmps73
  go_wp2_with fail
  go_loopg [2, 3] d.size (fun kk s2 s3 wr => ∃ (i jn : Nat) (jz : Int) (dk : Array (List UInt8)) (n : Nat), s2 = .int .i64 i ∧ s3 = .int .i64 jz ∧ ((i : Int) < jz → jz = jn ∧ jn < d.size) ∧ (¬ (i : Int) < jz → ¬ i < jn) ∧ jn - i ≤ kk ∧
    dk.size = d.size ∧ wr = putRowK encK 16 (Sort.ahead w n) blk off dk ∧ reverseLoop i jn dk = reverseLoop 0 (d.size - 1) d)
  case atStart => exact ⟨0, d.size - 1, (d.size : Int) - 1, d, 0, rfl, rfl, fun h => ⟨by omega, by omega⟩, fun h => by omega, by omega, rfl, (putRowK_self encK 16 w blk off d hH).symm, rfl⟩
  case round =>
    obtain ⟨i, jn, jz, dk, n, rfl, rfl, h1', h2, hkk, hds, hwr, heq⟩ := hrel
    by_cases hlt : (i : Int) < jz
    · obtain ⟨rfl, hjn⟩ := h1' hlt
      have hij : i < jn := by omega
      have hHd : HoldsK encK 16 wr.drew blk off dk := by rw [hwr]; exact holdsK_putRowK encK 16 _ blk off d dk (holdsK_ahead encK 16 w (n + 1) blk off d hH) hds
      have HLI : Hid (wr.drew.rangeAt blk (off + i * 16) (encK dk[i]!)) := fun j v hv => by have := cells_holdsK hHd hk (i := i) (by omega) j v hv; rwa [Addr.add_mid] at this
      have HLJ : Hid (wr.drew.rangeAt blk (off + jn * 16) (encK dk[jn]!)) := fun j v hv => by have := cells_holdsK hHd hk (i := jn) (by omega) j v hv; rwa [Addr.add_mid] at this
      have HT1 : Hid (wr.drew.there blk (off + i * 16) 16) := fun j hj => by have := hHd.cell (i := i) (c := j) (by omega) hj; exact ⟨by rw [this.1]; rfl, this.2⟩
      have HT2 : Hid (wr.drew.there blk (off + jn * 16) 16) := fun j hj => by have := hHd.cell (i := jn) (c := j) (by omega) hj; exact ⟨by rw [this.1]; rfl, this.2⟩
      have A : Aside (wr = putRowK encK 16 (Sort.ahead w n) blk off dk) := hwr
      have HOI : Hid (∀ v ∈ encK dk[i]!, v.oneCell' = true) := h1 _
      have HOJ : Hid (∀ v ∈ encK dk[jn]!, v.oneCell' = true) := h1 _
      have HSI : Hid ((encK dk[i]!).length = 16) := hk _
      have HSJ : Hid ((encK dk[jn]!).length = 16) := hk _
      have hni : (d.size : Int) ≤ 140737488351232 := by omega
      have hji : (jn : Int) < d.size := by omega
      have hnid : i < d.size := by omega
      have hnii : ¬ d.size ≤ i := by omega
      have hnij : ¬ d.size ≤ jn := by omega
      have hll : (i : Int) < d.size := by omega
      clear hwr hHd hH h1' h2 h1 hk
      obtain ⟨ci, hci⟩ : ∃ c, c = encK dk[i]! := ⟨_, rfl⟩
      obtain ⟨cj, hcj⟩ : ∃ c, c = encK dk[jn]! := ⟨_, rfl⟩
      rw [← hci] at HLI HOI HSI
      rw [← hcj] at HLJ HOJ HSJ
      have CI : Hid (ci = encK dk[i]! ∧ cj = encK dk[jn]!) := ⟨hci, hcj⟩
      clear hci hcj
      go_wp2_with fail
      refine wp_region_noPanic ?_
      refine wp_region_held_drew (S := fun _ => True) (by kernel_rfl) trivial (fun hS => ?_)
      refine hd_take 0 (.slice (some ⟨blk, off, none⟩) d.size cap) rfl rfl (by kernel_rfl) (by kernel_rfl) (by kernel_rfl) (fun _ _ _ h => h) (fun w _ => by go_simp) hS ?_
      refine hd_take 1 (.int .i64 (i : Int)) rfl rfl (by kernel_rfl) (by kernel_rfl) (by kernel_rfl) (fun _ _ _ h => h) (fun w _ => by go_simp) hS ?_
      refine hd_take 2 (.slice (some ⟨blk, off, none⟩) d.size cap) rfl rfl (by kernel_rfl) (by kernel_rfl) (by kernel_rfl) (fun _ _ _ h => h) (fun w _ => by go_simp) hS ?_
      refine hd_take 3 (.int .i64 (jn : Int)) rfl rfl (by kernel_rfl) (by kernel_rfl) (by kernel_rfl) (fun _ _ _ h => h) (fun w _ => by go_simp) hS ?_
      refine hd_take 4 (.slice (some ⟨blk, off, none⟩) d.size cap) rfl rfl (by kernel_rfl) (by kernel_rfl) (by kernel_rfl) (fun _ _ _ h => h) (fun w _ => by go_simp) hS ?_
      refine hd_take 5 (.int .i64 (jn : Int)) rfl rfl (by kernel_rfl) (by kernel_rfl) (by kernel_rfl) (fun _ _ _ h => h) (fun w _ => by go_simp) hS ?_
      refine hd_take 8 (.slice (some ⟨blk, off, none⟩) d.size cap) rfl rfl (by kernel_rfl) (by kernel_rfl) (by kernel_rfl) (fun _ _ _ h => h) (fun w _ => by go_simp) hS ?_
      refine hd_take 9 (.int .i64 (i : Int)) rfl rfl (by kernel_rfl) (by kernel_rfl) (by kernel_rfl) (fun _ _ _ h => h) (fun w _ => by go_simp) hS ?_
      simp only [List.getElem_toArray, List.getElem_cons_succ, List.getElem_cons_zero, Act.put, List.setIfInBounds_toArray, List.set_cons_zero, List.set_cons_succ]
      refine hd_take 6 (.pointer (some ⟨blk, off + jn * 16, none⟩)) rfl rfl (by kernel_rfl) (by kernel_rfl) (by kernel_rfl) (fun _ _ _ h => h) (fun w _ => by go_simp) hS ?_
      refine hd_take 10 (.pointer (some ⟨blk, off + i * 16, none⟩)) rfl rfl (by kernel_rfl) (by kernel_rfl) (by kernel_rfl) (fun _ _ _ h => h) (fun w _ => by go_simp) hS ?_
      simp only [List.getElem_toArray, List.getElem_cons_succ, List.getElem_cons_zero, Act.put, List.setIfInBounds_toArray, List.set_cons_zero, List.set_cons_succ]
      refine hd_two 7 11 (by kernel_rfl) (op_load_mid 7 blk (off + jn * 16) cj 23 (.tmp 20) rfl rfl rfl rfl HLJ.out under_key rfl (info16 HSJ.out) ⟨trivial, ?_⟩) (op_load_mid 11 blk (off + i * 16) ci 23 (.tmp 24) rfl rfl rfl rfl HLI.out under_key rfl (info16 HSI.out) ⟨trivial, ?_⟩)
      · simp only [List.getElem_toArray, List.getElem_cons_succ, List.getElem_cons_zero, Act.put, List.setIfInBounds_toArray, List.set_cons_zero, List.set_cons_succ]
        refine hd_sole 11 (by kernel_rfl) (op_load_mid 11 blk (off + i * 16) ci 23 (.tmp 24) rfl rfl rfl rfl HLI.out under_key rfl (info16 HSI.out) ⟨trivial, ?_⟩)
        simp only [List.getElem_toArray, List.getElem_cons_succ, List.getElem_cons_zero, Act.put, List.setIfInBounds_toArray, List.set_cons_zero, List.set_cons_succ]
        refine hd_take 12 (.pointer (some ⟨blk, off + i * 16, none⟩)) rfl rfl (by kernel_rfl) (by kernel_rfl) (by kernel_rfl) (fun _ _ _ h => h) (fun w _ => by go_simp) trivial ?_
        simp only [List.getElem_toArray, List.getElem_cons_succ, List.getElem_cons_zero, Act.put, List.setIfInBounds_toArray, List.set_cons_zero, List.set_cons_succ]
        refine hd_sole 13 (by kernel_rfl) (op_store_mid 13 blk (off + i * 16) cj.toArray 23 (.tmp 26) (.tmp 21) rfl rfl rfl rfl rfl (by rw [List.size_toArray, HSJ.out]; exact HT1.out) (by rw [List.size_toArray]; exact info16 HSJ.out) (all_oneCell_toArray HOJ.out) ⟨trivial, ?_⟩)
        simp only [List.getElem_toArray, List.getElem_cons_succ, List.getElem_cons_zero, Act.put, List.setIfInBounds_toArray, List.set_cons_zero, List.set_cons_succ]
        refine hd_take 14 (.pointer (some ⟨blk, off + jn * 16, none⟩)) rfl rfl (by kernel_rfl) (by kernel_rfl) (by kernel_rfl) (fun _ _ _ h => h) (fun w _ => by go_simp) trivial ?_
        simp only [List.getElem_toArray, List.getElem_cons_succ, List.getElem_cons_zero, Act.put, List.setIfInBounds_toArray, List.set_cons_zero, List.set_cons_succ]
        refine hd_sole 15 (by kernel_rfl) (op_store_mid 15 blk (off + jn * 16) ci.toArray 23 (.tmp 27) (.tmp 25) rfl rfl rfl rfl rfl (by rw [List.size_toArray, HSI.out]; exact World.there_setCells HT2.out _ _ _) (by rw [List.size_toArray]; exact info16 HSI.out) (all_oneCell_toArray HOI.out) ⟨trivial, ?_⟩)
        refine wpAnyH_done (by kernel_rfl) (NoPanic.normal ?_) _
        simp only [List.getElem_toArray, List.getElem_cons_succ, List.getElem_cons_zero, Act.put, List.setIfInBounds_toArray, List.set_cons_zero, List.set_cons_succ]
        go_wp2_with fail
        go_roundg (jn - 1 - (i + 1))
        case measure => omega
        case rel =>
          rw [reverseLoop, if_pos hij] at heq
          refine ⟨i + 1, jn - 1, (jn : Int) - 1, swp dk i jn, n + 1, by simp, rfl, fun h => ⟨by omega, by omega⟩, fun h => by omega, Nat.le_refl _, by rw [size_swp]; exact hds, ?_, heq⟩
          rw [CI.out.1, CI.out.2, A.out]
          exact swap_worldK encK 16 encK_length w n 1 blk off dk i jn (by omega) (by omega)
      · simp only [List.getElem_toArray, List.getElem_cons_succ, List.getElem_cons_zero, Act.put, List.setIfInBounds_toArray, List.set_cons_zero, List.set_cons_succ]
        refine hd_sole 7 (by kernel_rfl) (op_load_mid 7 blk (off + jn * 16) cj 23 (.tmp 20) rfl rfl rfl rfl HLJ.out under_key rfl (info16 HSJ.out) ⟨trivial, ?_⟩)
        simp only [List.getElem_toArray, List.getElem_cons_succ, List.getElem_cons_zero, Act.put, List.setIfInBounds_toArray, List.set_cons_zero, List.set_cons_succ]
        refine hd_take 12 (.pointer (some ⟨blk, off + i * 16, none⟩)) rfl rfl (by kernel_rfl) (by kernel_rfl) (by kernel_rfl) (fun _ _ _ h => h) (fun w _ => by go_simp) trivial ?_
        simp only [List.getElem_toArray, List.getElem_cons_succ, List.getElem_cons_zero, Act.put, List.setIfInBounds_toArray, List.set_cons_zero, List.set_cons_succ]
        refine hd_sole 13 (by kernel_rfl) (op_store_mid 13 blk (off + i * 16) cj.toArray 23 (.tmp 26) (.tmp 21) rfl rfl rfl rfl rfl (by rw [List.size_toArray, HSJ.out]; exact HT1.out) (by rw [List.size_toArray]; exact info16 HSJ.out) (all_oneCell_toArray HOJ.out) ⟨trivial, ?_⟩)
        simp only [List.getElem_toArray, List.getElem_cons_succ, List.getElem_cons_zero, Act.put, List.setIfInBounds_toArray, List.set_cons_zero, List.set_cons_succ]
        refine hd_take 14 (.pointer (some ⟨blk, off + jn * 16, none⟩)) rfl rfl (by kernel_rfl) (by kernel_rfl) (by kernel_rfl) (fun _ _ _ h => h) (fun w _ => by go_simp) trivial ?_
        simp only [List.getElem_toArray, List.getElem_cons_succ, List.getElem_cons_zero, Act.put, List.setIfInBounds_toArray, List.set_cons_zero, List.set_cons_succ]
        refine hd_sole 15 (by kernel_rfl) (op_store_mid 15 blk (off + jn * 16) ci.toArray 23 (.tmp 27) (.tmp 25) rfl rfl rfl rfl rfl (by rw [List.size_toArray, HSI.out]; exact World.there_setCells HT2.out _ _ _) (by rw [List.size_toArray]; exact info16 HSI.out) (all_oneCell_toArray HOI.out) ⟨trivial, ?_⟩)
        refine wpAnyH_done (by kernel_rfl) (NoPanic.normal ?_) _
        simp only [List.getElem_toArray, List.getElem_cons_succ, List.getElem_cons_zero, Act.put, List.setIfInBounds_toArray, List.set_cons_zero, List.set_cons_succ]
        go_wp2_with fail
        go_roundg (jn - 1 - (i + 1))
        case measure => omega
        case rel =>
          rw [reverseLoop, if_pos hij] at heq
          refine ⟨i + 1, jn - 1, (jn : Int) - 1, swp dk i jn, n + 1, by simp, rfl, fun h => ⟨by omega, by omega⟩, fun h => by omega, Nat.le_refl _, by rw [size_swp]; exact hds, ?_, heq⟩
          rw [CI.out.1, CI.out.2, A.out]
          exact swap_worldK encK 16 encK_length w n 1 blk off dk i jn (by omega) (by omega)
    · have hnot := h2 hlt
      go_wp2
      go_end0
      refine ⟨rfl, n, ?_⟩
      rw [reverseLoop, if_neg hnot] at heq
      rw [← Lib.reverseLoop_reverse, ← heq]
theorem reverse_none (w : World) : Calls Try.prog 73 #[.slice none 0 0] w fun e w' => e = .returned (.tuple #[]) ∧ w' = w := by
  go_enter Try.func73, Try.ntmps73
  go_wp2
  go_loopg [2, 3] 0 (fun _ s2 s3 wr => s2 = .int .i64 0 ∧ s3 = .int .i64 (-1) ∧ wr = w)
  case atStart => exact ⟨rfl, rfl, rfl⟩
  case round =>
    obtain ⟨rfl, rfl, rfl⟩ := hrel
    go_wp2
    go_end0
    exact ⟨rfl, rfl⟩
theorem putRowK_nil (w : World) (g : Nat) : putRowK encK 16 w g 0 #[] = w := by
  refine putRowK_self encK 16 w g 0 #[] (fun j hj => ?_)
  simp [flatK] at hj
theorem reverse_any {B : Nat} (ks : List (List UInt8)) (A : Option Addr) (c : Nat) (w : World) {n : Nat} (hn : ks.length = n) (h : OK16 B w A c ks) (hk : Keys16 ks) (hl : n ≤ 140737488351232) :
    Calls Try.prog 73 #[.slice A n c] w fun e w' => e = .returned (.tuple #[]) ∧ OK16 B w' A c ks.reverse ∧ Below B w w' := by
  subst hn
  by_cases h0 : ks = []
  · subst h0
    rcases h.2 with ⟨e, _⟩ | ⟨g, cap, cur, e, hb, hg, hn, hm, hs, ht⟩
    · injection e with e1 e2 e3
      subst e1; subst e3
      refine (reverse_none w).mono ?_
      rintro e w' ⟨rfl, rfl⟩
      exact ⟨rfl, h, Below.refl _ _⟩
    · injection e with e1 e2 e3
      subst e1; subst e3
      refine (reverse_row g 0 c #[] w (fun j hj => by simp [flatK] at hj) (by simp)).mono ?_
      rintro e w' ⟨rfl, q, rfl⟩
      rw [show (#[] : Array (List UInt8)).reverse = #[] from rfl, putRowK_nil]
      exact ⟨rfl, h, ⟨rfl, rfl, rfl, Nat.le_refl _, fun _ _ => rfl⟩⟩
  · obtain ⟨g, rfl, hb, hg, hh⟩ := holds_of_OK16 h hk h0
    refine (reverse_row g 0 c ks.toArray w hh (by simpa using hl)).mono ?_
    rintro e w' ⟨rfl, q, rfl⟩
    rw [show ks.toArray.reverse = ks.reverse.toArray by simp]
    exact ⟨rfl, h.put hk.reverse (by simp), below_putK (Below.refl _ _) hb⟩
end Go.Proofs.Ytinpiodfpnbllaa

/- slices.Concat at bytes. -/
namespace Go.Proofs.Ytinpiodfpnbllaa
open Go.RowKit
set_option linter.unusedVariables false

theorem wpList_grow (w : World) {ops : Array Oper} {rest : List Oper} {o : Oper} {a : Act} {Q : Exit → Act → World → Prop} (hgd : o.guard = none) (s x : Operand)
    (ho : o.op = .call { callee := .builtin .append, args := #[s, x], argTypes := #[24, 3] }) (k : Nat) (hs : a.eval s = .slice none 0 0) (hx : a.eval x = .int .i64 (k : Int)) (h0 : 0 < k) (hk : k ≤ 1000000)
    (h : ∀ c w', OB w.heap.size w' (some ⟨w.heap.size, 0, none⟩) c [] → k ≤ c → c ≤ 9223372036854775807 → Below w.heap.size w w' → wpList Try.prog ops Q rest (a.put o.dst (.slice (some ⟨w.heap.size, 0, none⟩) k c)) w') : wpList Try.prog ops Q (o :: rest) a w := by
  obtain ⟨i0, hi, hz0, hz1, hz2⟩ := info_parts u8_info'
  have hfit : Builtin.nextslicecap (0 + k) 0 * i0.bytes ≤ 281474976710656 := by
    rw [hz2]
    unfold Builtin.nextslicecap
    simp only [Nat.zero_add]
    split <;> simp <;> omega
  have hrun := Lib.run_append_grow_zeros (P := Try.prog) w 24 3 o.type 5 i0 (.int .u8 0) .i64 .i64 Try.underlying24 Try.underlying3 hi hz0 none 0 0 [] (by simp [Builtin.firstCells]) k h0 (by rw [hz1]; omega) (by omega) (by omega) (by rw [hz2]; omega) hfit
  refine wpList_plain hgd fun K hK => ?_
  rw [Nat.zero_add] at hrun
  have hge := grownCap_ge w k 0 5
  have hle := grownCap_le_maxLen w k 0 5 (by simp only [maxLen]; omega)
  have ho1 : OB w.heap.size (w.drew.alloc (.cells (([] : List Value).toArray ++ Builtin.zeroCells (Value.int .u8 0).cells k ++ Builtin.zeroCells (Value.int .u8 0).cells (grownCap w k 0 5 - k)) 5)) (some ⟨w.heap.size, 0, none⟩) (grownCap w k 0 5) [] :=
    ⟨rfl, .inr ⟨w.heap.size, _, _, rfl, Nat.le_refl _, heap_alloc_new w.drew _, Nat.zero_le _, hle, by simp [size_zeroCells, Value.cells]; omega, by simp [cellsB]⟩⟩
  have hb1 : Below w.heap.size w (w.drew.alloc (.cells (([] : List Value).toArray ++ Builtin.zeroCells (Value.int .u8 0).cells k ++ Builtin.zeroCells (Value.int .u8 0).cells (grownCap w k 0 5 - k)) 5)) := (Below.refl _ w).drew.alloc (Nat.le_refl _) _
  unfold Oper.wp
  simp only [execOp, ho, resolve, invoke, builtin, Sem.run_bind, Sem.run_pure, Result.andThen_ok, List.map_toArray, List.map_cons, List.map_nil, hs, hx, hrun]
  exact hK _ _ (h _ _ ho1 hge (by simpa [maxLen] using hle) hb1)

set_option maxHeartbeats 1000000 in
theorem Grow_any (n : Nat) (w : World) (h0 : 0 < n) (hn : n ≤ 1000000) : Calls Try.prog 150 #[.slice none 0 0, .int .i64 (n : Int)] w fun e w' => (∃ A c, e = .returned (.slice A 0 c) ∧ OB w.heap.size w' A c []) ∧ Below w.heap.size w w' := by
  have hni : (n : Int) ≤ 1000000 := by omega
  have h0i : (0 : Int) < (n : Int) := by omega
  go_enter Try.func150, Try.ntmps150
  go_wp2_with (at_builtin; refine wpList_grow _ rfl (.tmp 20) (.tmp 21) rfl n rfl rfl h0 hn ?_; intro c1 w1 ho1 hc1 hc2 hb1; have HO1 := Lib.hid ho1; clear ho1)
  go_ret
  exact ⟨⟨_, c1, rfl, HO1.out⟩, hb1⟩

/-- The first i rows, one behind the other. -/
def catL (rs : List BRow) (i : Nat) : List UInt8 := (rs.take i).flatMap BRow.l
theorem catL_succ {rs : List BRow} {i : Nat} {r : BRow} (h : rs[i]? = some r) : catL rs (i + 1) = catL rs i ++ r.l := by
  obtain ⟨hi, he⟩ := List.getElem?_eq_some_iff.1 h
  rw [catL, List.take_succ_eq_append_getElem hi, List.flatMap_append, he]
  simp [catL]
theorem catL_le (rs : List BRow) {i n : Nat} (h : i ≤ n) : (catL rs i).length ≤ (catL rs n).length := by
  have e : (rs.take n).take i = rs.take i := by rw [List.take_take, Nat.min_eq_left h]
  have this := (List.take_append_drop i (rs.take n)).symm
  rw [e] at this
  rw [catL, catL, this, List.flatMap_append, List.length_append]
  omega
theorem RR.cellAt {w : World} {A : Option Addr} {c : Nat} {rs : List BRow} (h : RR w A c rs) {i : Nat} (hi : i < rs.length) :
    ∃ b off r, A = some ⟨b, off, none⟩ ∧ b < w.heap.size ∧ rs[i]? = some r ∧ w.cell? ⟨b, off + i, none⟩ = some (.slice r.A r.l.length r.c) ∧ BR w r.A r.c r.l := by
  obtain ⟨b, off, e, hb, v, hv, hc⟩ := Rd.at1 h.1 hi
  have hr : rs[i]? = some rs[i] := List.getElem?_eq_getElem hi
  rw [List.getElem?_map, hr] at hv
  injection hv with hv
  subst hv
  exact ⟨b, off, rs[i], e, hb, hr, hc, h.2 _ (List.getElem_mem hi)⟩
theorem RR.on {w w' : World} {A : Option Addr} {c : Nat} {rs : List BRow} (h : RR w A c rs) (hb : Below w.heap.size w w') : RR w' A c rs := ⟨h.1.below hb, fun r hr => (h.2 r hr).below hb⟩

set_option maxHeartbeats 1000000 in
set_option maxRecDepth 100000 in
theorem Concat_any (A : Option Addr) (c : Nat) (rs : List BRow) (w : World) {n N : Nat} (hn : rs.length = n) (h : RR w A c rs) (hN : (catL rs n).length = N) (h0 : 0 < N) (hb : N ≤ 1000000) :
    Calls Try.prog 129 #[.slice A n c] w fun e w' => (∃ A' c', e = .returned (.slice A' N c') ∧ OB w.heap.size w' A' c' (catL rs n)) ∧ Below w.heap.size w w' := by
  have HN := Lib.hid hn
  have HNN := Lib.hid hN
  have H := Lib.hid h
  have hni : (N : Int) ≤ 1000000 := by omega
  have hnl : (n : Int) ≤ 140737488351232 := by have := h.1.len; omega
  have HGR : Hid (∀ W, Calls Try.prog 150 #[.slice none 0 0, .int .i64 (N : Int)] W fun e w' => (∃ A c, e = .returned (.slice A 0 c) ∧ OB W.heap.size w' A c []) ∧ Below W.heap.size W w') := fun W => Grow_any N W h0 hb
  clear hn hN h
  go_enter Try.func129, Try.ntmps129
  go_wp2_with fail
  go_loop [3, 11] (fun vs vi => ∃ (i m : Nat), i ≤ n ∧ vi = .int .i64 (i : Int) ∧ vs = .int .i64 (m : Int) ∧ Hid ((catL rs i).length = m)) (fun _ vi => n - (intOf vi).toNat)
  case atStart => exact ⟨0, 0, by omega, rfl, rfl, rfl⟩
  case round =>
    obtain ⟨i, m, hi, rfl, rfl, HM⟩ := hrel
    have hmN : m ≤ N := by have h1 := catL_le rs hi; rw [HM.out, HNN.out] at h1; exact h1
    have hmi : (m : Int) ≤ 1000000 := by omega
    by_cases hlt : i < n
    · have hii : (i : Int) < n := by omega
      obtain ⟨b, off, r, rfl, hbb, hr, hc, hR⟩ := H.out.cellAt (i := i) (by have := HN.out; omega)
      have HCS := Lib.hid (catL_succ hr)
      have hm2 : m + r.l.length ≤ N := by have h1 := catL_le rs (show i + 1 ≤ n from hlt); rw [HCS.out, List.length_append, HM.out, HNN.out] at h1; exact h1
      obtain ⟨RA, rc, rl⟩ := r
      dsimp only at hc hm2 HCS
      obtain ⟨rn, hrn⟩ : ∃ rn, rl.length = rn := ⟨_, rfl⟩
      rw [hrn] at hc hm2
      have HRN := Lib.hid hrn
      have hm2i : (m : Int) + (rn : Int) ≤ 1000000 := by omega
      clear hr hR hrn
      go_wp2_with fail
      go_round
      case rel => exact ⟨i + 1, m + rn, by omega, by go_num, by go_num, by unfold Hid; rw [HCS.out, List.length_append, HM.out, HRN.out]⟩
      case measure => simp [intOf]; omega
    · obtain rfl : i = n := by omega
      obtain rfl : m = N := by rw [← HM.out, HNN.out]
      have hii : (i : Int) ≤ i := Int.le_refl _
      go_wp2_with (go_at_call 150; refine (HGR.out _).mono ?_; rintro e w1 ⟨⟨A1, c1, rfl, ho1⟩, hb1⟩; have HO1 := Lib.hid ho1; clear ho1)
      go_loopw [6, 27] (fun vo vi wr => ∃ (j q : Nat) (A' : Option Addr) (c' : Nat), j ≤ i ∧ vi = .int .i64 (j : Int) ∧ vo = .slice A' q c' ∧ Hid ((catL rs j).length = q) ∧ Hid (OB w.heap.size wr A' c' (catL rs j)) ∧ Below w.heap.size w wr) (fun _ vi _ => i - (intOf vi).toNat)
      case atStart => exact ⟨0, 0, A1, c1, by omega, rfl, rfl, rfl, HO1.out, hb1⟩
      case round =>
        obtain ⟨j, q, A', c', hj, rfl, rfl, HQ, HO, hbel⟩ := hrel
        by_cases hlt2 : j < i
        · have hji : (j : Int) < i := by omega
          obtain ⟨b, off, r, rfl, hbb, hr, hc, hR⟩ := (H.out.on hbel).cellAt (i := j) (by have := HN.out; omega)
          have HCS := Lib.hid (catL_succ hr)
          have hm2 : q + r.l.length ≤ m := by have h1 := catL_le rs (show j + 1 ≤ i from hlt2); rw [HCS.out, List.length_append, HQ.out, HNN.out] at h1; exact h1
          obtain ⟨RA, rc, rl⟩ := r
          dsimp only at hc hm2 HCS hR
          obtain ⟨rn, hrn⟩ : ∃ rn, rl.length = rn := ⟨_, rfl⟩
          rw [hrn] at hc hm2
          have HRN := Lib.hid hrn
          have HR := Lib.hid hR
          clear hr hR hrn
          go_wp2_with (at_builtin; refine wpList_append_bytes _ rfl (.tmp 31) (.tmp 32) rfl w.heap.size A' q c' (catL rs j) HQ.out rfl HO.out RA rn rc rl HRN.out rfl (HR.out.src HRN.out) (by omega) hbel.size ?_; intro A5 c5 w5 hon5 hbl5 hg5; have HON5 := Lib.hid hon5; have b5 := hbel.trans hbl5; clear hon5 hg5 hbl5)
          go_roundw
          case rel => exact ⟨j + 1, q + rn, A5, c5, by omega, by go_num, rfl, by unfold Hid; rw [HCS.out, List.length_append, HQ.out, HRN.out], by rw [HCS.out]; exact HON5.out, b5⟩
          case measure => simp [intOf]; omega
        · obtain rfl : j = i := by omega
          obtain rfl : q = m := by rw [← HQ.out, HNN.out]
          go_wp2_with fail
          go_ret
          exact ⟨⟨A', c', rfl, HO.out⟩, hbel⟩
end Go.Proofs.Ytinpiodfpnbllaa

/- Undoing a round. -/
namespace Go.Proofs.Ytinpiodfpnbllaa
open Go.RowKit
set_option linter.unusedVariables false

theorem deW_step (k p : W2) (j : Nat) (h : j < 32) : deW k p (32 - j) = bck (ksS k j).2 (deW k p (32 - (j + 1))) := by
  obtain ⟨m, hm⟩ : ∃ m, m = 32 - (j + 1) := ⟨_, rfl⟩
  rw [← hm, show 32 - j = m + 1 from by omega, deW, show 31 - m = j from by omega]
set_option maxHeartbeats 1000000 in
set_option maxRecDepth 100000 in
theorem back_any (p : W2) (k : UInt64) (w : World) : Calls Try.prog 147 #[.agg #[.int .u64 (p.1.toNat : Int), .int .u64 (p.2.toNat : Int)], .int .u64 (k.toNat : Int)] w fun e w' => e = .returned (.agg #[.int .u64 ((bck k p).1.toNat : Int), .int .u64 ((bck k p).2.toNat : Int)]) ∧ Below w.heap.size w w' := by
  obtain ⟨x, y⟩ := p
  dsimp only
  have hx := u64_bd x
  have hy := u64_bd y
  have hk := u64_bd k
  have HE : Hid (rotl8 ((x ^^^ k) - rotr3 (x ^^^ y)) = (bck k (x, y)).1 ∧ rotr3 (x ^^^ y) = (bck k (x, y)).2) := ⟨rfl, rfl⟩
  have hy3 := u64_bd (rotr3 (x ^^^ y))
  go_enter Try.func147, Try.ntmps147
  go_wp2_with fail
  simp only [u64_xor]
  go_at_call 144
  refine (RotateLeft64_r3 (x ^^^ y) _).mono ?_
  rintro e w1 ⟨rfl, rfl⟩
  go_wp2_with fail
  simp only [u64_xor, u64_sub]
  go_at_call 144
  refine (RotateLeft64_l8 _ _).mono ?_
  rintro e w1 ⟨rfl, rfl⟩
  rw [HE.out.1, HE.out.2]
  go_wp2_with fail
  exact bodyPost_ret (v := .agg #[.int .u64 ((bck k (x, y)).1.toNat : Int), .int .u64 ((bck k (x, y)).2.toNat : Int)]) (by simp [results, Try.results147, go_sem]) rfl
    ⟨rfl, alloc2_bel w _ _⟩
end Go.Proofs.Ytinpiodfpnbllaa

/- The reference's Decrypt. -/
namespace Go.Proofs.Ytinpiodfpnbllaa
open Go.RowKit
set_option linter.unusedVariables false
attribute [local go_sem] run_storeCells_key

theorem bck_snd (u x y : UInt64) : rotr3 (y ^^^ x) = (bck u (x, y)).2 := by rw [UInt64.xor_comm]; rfl
theorem bck_fst (u x y : UInt64) : rotl8 ((x ^^^ u) - (bck u (x, y)).2) = (bck u (x, y)).1 := rfl
set_option maxHeartbeats 1000000 in
set_option maxRecDepth 100000 in
theorem refDecrypt_any (k b : List UInt8) (w : World) (hk : k.length = 16) (hb : b.length = 16) : Calls Try.prog 121 #[.agg (cellsB k).toArray, .agg (cellsB b).toArray] w fun e w' => e = .returned (.agg (cellsB (decS k b)).toArray) ∧ Below w.heap.size w w' := by
  have HK := Lib.hid hk
  have HB := Lib.hid hb
  have hkl : (cellsB k).length = 16 := by rw [cellsB_length, hk]
  have hbl : (cellsB b).length = 16 := by rw [cellsB_length, hb]
  have HZ := Lib.hid zero16
  clear hk hb
  go_enter Try.func121, Try.ntmps121
  go_wp2_with (first
    | (go_at_call 115; rw [fold16B b HB.out, HZ.out]; refine (refWords_key b _ HB.out).mono ?_; rintro e w1 ⟨rfl, hb1⟩; have hck : ∀ j, w1.cell? ⟨w.heap.size, j, none⟩ = (cellsB k).toArray[j]? := fun j => ((blk_a0 w (cellsB k).toArray 23 _ _).below' hb1).cell j)
    | (go_at_call 116; rw [fold16B k HK.out]; refine (refRoundKeys_any k _ HK.out).mono ?_; rintro e w2 ⟨A, c, rfl, hR, hb2⟩; have HR := Lib.hid hR; clear hR))
  have HB0 : Hid (Blk w2 (w.heap.size + 1 + 1) 23 (cellsB zeroK).toArray) := (((blk_a2 w _ _ (cellsB zeroK).toArray 23).below' hb1)).below' hb2
  have hb02 : Below w.heap.size w w2 := (alloc3_bel w _ _ _).trans ((hb1.trans (hb2.mono hb1.size)).mono (alloc3_bel w _ _ _).size)
  have hs2 : w.heap.size + 1 + 1 < w2.heap.size := HB0.out.lt
  clear hck
  go_loopw [5, 6, 8] (fun vx vy vi wr => ∃ j : Nat, j ≤ 32 ∧ vi = .int .i64 ((j : Int) - 1) ∧ vx = .int .u64 ((deW (wds k) (wds b) (32 - j)).1.toNat : Int) ∧ vy = .int .u64 ((deW (wds k) (wds b) (32 - j)).2.toNat : Int) ∧ Below w2.heap.size w2 wr) (fun _ _ vi _ => (intOf vi + 1).toNat)
  case atStart => exact ⟨32, by omega, rfl, rfl, rfl, Below.refl _ _⟩
  case round =>
    obtain ⟨j', hi, rfl, rfl, rfl, hbel⟩ := hrel
    by_cases hlt : 0 < j'
    · obtain ⟨j, rfl⟩ : ∃ j, j' = j + 1 := ⟨j' - 1, by omega⟩
      rw [show ((j + 1 : Nat) : Int) - 1 = (j : Int) from by omega]
      have hii : (j : Int) < 32 := by omega
      have hjlt : j < 32 := by omega
      have HES : Hid (deW (wds k) (wds b) (32 - j) = bck (ksS (wds k) j).2 (deW (wds k) (wds b) (32 - (j + 1)))) := deW_step _ _ _ hjlt
      obtain ⟨g, off, rfl, hg, v, hv, hc⟩ := Rd.at1 (HR.out.below hbel) hjlt
      rw [ksL_at _ _ hjlt] at hv
      injection hv with hv
      subst hv
      obtain ⟨⟨x, y⟩, hp⟩ : ∃ p, deW (wds k) (wds b) (32 - (j + 1)) = p := ⟨_, rfl⟩
      obtain ⟨u, hu⟩ : ∃ u, (ksS (wds k) j).2 = u := ⟨_, rfl⟩
      rw [hp, hu] at HES
      rw [hp]
      rw [hu] at hc
      have hx := u64_bd x
      have hy := u64_bd y
      have hu3 := u64_bd u
      have E1 := Lib.hid (bck_fst u x y)
      have E2 := Lib.hid (bck_snd u x y)
      clear hp hu hjlt
      go_wp2_with fail
      simp only [u64_xor]
      go_at_call 117
      refine (refRotr_3 (y ^^^ x) _).mono ?_
      rintro e w3 ⟨rfl, n3, rfl⟩
      rw [E2.out]
      have hc3 := hc
      have hy2 := u64_bd (bck u (x, y)).2
      go_wp2_with fail
      simp only [u64_xor, u64_sub]
      go_at_call 118
      refine (refRotl_8 _ _).mono ?_
      rintro e w4 ⟨rfl, n4, rfl⟩
      rw [E1.out]
      go_wp2_with fail
      go_roundw
      case rel => exact ⟨j, by omega, by go_num, by rw [HES.out], by rw [HES.out], by first | exact below_drewN hbel _ | exact below_drewN (below_drewN hbel _) _⟩
      case measure => simp [intOf]
    · obtain rfl : j' = 0 := by omega
      have HE : Hid (decS k b = blk (deW (wds k) (wds b) 32)) := rfl
      rw [show 32 - 0 = 32 from rfl]
      obtain ⟨⟨x, y⟩, hp⟩ : ∃ p, deW (wds k) (wds b) 32 = p := ⟨_, rfl⟩
      rw [hp] at HE ⊢
      have hall := all16 (blk (x, y))
      have hl : (cellsB (blk (x, y))).length = 16 := rfl
      clear hp
      go_wp2_with (go_at_call 119; refine (refBlock2_any x y _).mono ?_; rintro e w5 ⟨rfl, hb5⟩; have hB := ((HB0.out.below' hbel).below' hb5); have hr5 : (rowAt w5 (w.heap.size + 1 + 1)).size = 16 := by { rw [hB.row]; rfl }; have hf5 := hB.free; have HB5 := Lib.hid hB; clear hB)
      have hbF : Below w.heap.size w w5 := hb02.trans ((hbel.trans (hb5.mono hbel.size)).mono hb02.size)
      exact bodyPost_ret (results_cell_row rfl _ _ (w.heap.size + 1 + 1) _ _ (0, 0) _ rfl (HB5.out.setRow (cellsB (blk (x, y))).toArray) under_key rfl (cellsB_size _ rfl)) rfl ⟨by rw [HE.out], below_setRow hbF (by omega) _⟩
end Go.Proofs.Ytinpiodfpnbllaa
