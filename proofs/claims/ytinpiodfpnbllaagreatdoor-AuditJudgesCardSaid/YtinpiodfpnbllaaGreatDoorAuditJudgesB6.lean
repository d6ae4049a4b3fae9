/-
  Lemmas and contracts, joined: part 6.
-/
import Derived.Test.YtinpiodfpnbllaaGreatDoorAuditJudgesB5
set_option linter.unusedSimpArgs false
set_option linter.unusedVariables false
set_option linter.unnecessarySimpa false
/- The texts of a list: the program's. -/
namespace Go.Proofs.YtinpiodfpnbllaaGreatDoor
open Go.RowKit
set_option linter.unusedVariables false
set_option linter.unusedSimpArgs false
attribute [local go_sem] run_storeCells_key run_storeCells_new

set_option maxHeartbeats 1000000 in
set_option maxRecDepth 100000 in
theorem takeLeaf_any {B : Nat} (ts : List (List UInt8)) (k : List UInt8) (g : Nat) (w : World) (hk : k.length = 16) (h : TX B w g ts) (hts : ts.length ≤ 100000) :
    Calls Tryz.prog 94 #[.agg (cellsB k).toArray, .pointer (some ⟨g, 0, none⟩)] w fun e w' => e = .returned (.agg (cellsB (digS (leafT k))).toArray) ∧ TX B w' g (ts ++ [leafT k]) ∧ KeepT w w' ∧ Below B w w' := by
  have HZ := Lib.hid zero16
  have HK := Lib.hid hk
  have hBg : B ≤ w.heap.size := by have := h.lt; have := h.le; omega
  have b0 := alloc2_bel w (.cells (cellsB k).toArray 24) (.cells (cellsB zeroK).toArray 24)
  have B0 := Lib.hid (blk_b0 w (cellsB k).toArray 24 (.cells (cellsB zeroK).toArray 24))
  have B1 := Lib.hid (blk_b1 w (.cells (cellsB k).toArray 24) (cellsB zeroK).toArray 24)
  have HTX := Lib.hid (h.below b0)
  have HLT : Hid (∀ W, Calls Tryz.prog 96 #[.agg (cellsB k).toArray] W fun e w' => (∃ A c, e = .returned (.slice A 17 c) ∧ OB W.heap.size w' A c (leafT k)) ∧ Below W.heap.size W w') := fun W => leafText_any k W hk
  have HLL : Hid ((leafT k).length = 17) := by unfold Hid leafT; simp [hk]
  generalize leafT k = t at HLT HLL ⊢
  have HTK : Hid (∀ X d W, TX B W g ts → OB B W X d t → Calls Tryz.prog 95 #[.pointer (some ⟨g, 0, none⟩), .slice X 17 d] W fun e w' => e = .returned (.agg (cellsB (digS t)).toArray) ∧ TX B w' g (ts ++ [t]) ∧ KeepT W w' ∧ Below B W w') := fun X d W h1 h2 => take_any ts t X d g W HLL.out h1 h2 (by omega) hts
  have HDL : Hid ((digS t).length = 16) := digS_length _
  generalize digS t = dg at HDL HTK ⊢
  have hdc : (cellsB dg).length = 16 := by rw [cellsB_length, HDL.out]
  have hall := all16 dg
  clear hk h
  go_enter Tryz.func94, Tryz.ntmps94
  go_wp2_with (first
    | (refine wpList_load_row rfl 24 (.tmp 2) rfl w.heap.size rfl 24 (cellsB k).toArray (0, 0) _ (by rw [HZ.out]; exact B0.out) under_key rfl (cellsB_size _ HK.out) ?_)
    | (go_at_call 96; rw [HZ.out]; refine (HLT.out _).mono ?_; rintro e w1 ⟨⟨A1, c1, rfl, ho1⟩, hb1⟩; have b1 := bel_on b0 hb1; have TX1 := Lib.hid (HTX.out.below hb1); have O1 := Lib.hid (ho1.le_ (Nat.le_trans hBg b0.size)); have Q1 := Lib.hid (B1.out.below' hb1); clear ho1 hb1)
    | (go_at_call 95; refine (HTK.out _ _ _ TX1.out O1.out).mono ?_; rintro e w2 ⟨rfl, htx2, hk2, hb2⟩; have TX2 := Lib.hid htx2; have K2 := Lib.hid ((KeepT.of_below b1).trans hk2); have Q2 := hk2 _ _ Q1.out; have b2 := Lib.hid ((b1.mono hBg).trans hb2); have hr2 : (rowAt w2 (w.heap.size + 1)).size = 16 := (by rw [Q2.row]; rfl); have hf2 := Q2.free; have HQ2 := Lib.hid Q2; clear Q2 htx2 hk2 hb2))
  exact bodyPost_ret (results_cell_row rfl _ _ (w.heap.size + 1) _ _ (0, 0) _ rfl (HQ2.out.setRow (cellsB dg).toArray) under_key rfl (cellsB_size _ HDL.out)) rfl ⟨rfl, TX2.out.row HQ2.out _, K2.out.rowAbove (by omega) _, below_setRow b2.out (by omega) _⟩

set_option maxHeartbeats 1000000 in
set_option maxRecDepth 100000 in
theorem takeNode_any {B : Nat} (ts : List (List UInt8)) (a b : List UInt8) (g : Nat) (w : World) (ha : a.length = 16) (hb : b.length = 16) (h : TX B w g ts) (hts : ts.length ≤ 100000) :
    Calls Tryz.prog 97 #[.agg (cellsB a).toArray, .agg (cellsB b).toArray, .pointer (some ⟨g, 0, none⟩)] w fun e w' => e = .returned (.agg (cellsB (digS (nodeT a b))).toArray) ∧ TX B w' g (ts ++ [nodeT a b]) ∧ KeepT w w' ∧ Below B w w' := by
  have HZ := Lib.hid zero16
  have HA := Lib.hid ha
  have HB := Lib.hid hb
  have hBg : B ≤ w.heap.size := by have := h.lt; have := h.le; omega
  have b0 := alloc3_bel w (.cells (cellsB a).toArray 24) (.cells (cellsB b).toArray 24) (.cells (cellsB zeroK).toArray 24)
  have B0 := Lib.hid (blk_a0 w (cellsB a).toArray 24 (.cells (cellsB b).toArray 24) (.cells (cellsB zeroK).toArray 24))
  have B1 := Lib.hid (blk_a1 w (.cells (cellsB a).toArray 24) (cellsB b).toArray 24 (.cells (cellsB zeroK).toArray 24))
  have B2 := Lib.hid (blk_a2 w (.cells (cellsB a).toArray 24) (.cells (cellsB b).toArray 24) (cellsB zeroK).toArray 24)
  have HTX := Lib.hid (h.below b0)
  have HLT : Hid (∀ W, Calls Tryz.prog 98 #[.agg (cellsB a).toArray, .agg (cellsB b).toArray] W fun e w' => (∃ A c, e = .returned (.slice A 33 c) ∧ OB W.heap.size w' A c (nodeT a b)) ∧ Below W.heap.size W w') := fun W => nodeText_any a b W ha hb
  have HLL : Hid ((nodeT a b).length = 33) := by unfold Hid nodeT; simp [ha, hb]
  generalize nodeT a b = t at HLT HLL ⊢
  have HTK : Hid (∀ X d W, TX B W g ts → OB B W X d t → Calls Tryz.prog 95 #[.pointer (some ⟨g, 0, none⟩), .slice X 33 d] W fun e w' => e = .returned (.agg (cellsB (digS t)).toArray) ∧ TX B w' g (ts ++ [t]) ∧ KeepT W w' ∧ Below B W w') := fun X d W h1 h2 => take_any ts t X d g W HLL.out h1 h2 (by omega) hts
  have HDL : Hid ((digS t).length = 16) := digS_length _
  generalize digS t = dg at HDL HTK ⊢
  have hdc : (cellsB dg).length = 16 := by rw [cellsB_length, HDL.out]
  have hall := all16 dg
  clear ha hb h
  go_enter Tryz.func97, Tryz.ntmps97
  go_wp2_with (first
    | (refine wpList_load_row rfl 24 (.tmp 3) rfl w.heap.size rfl 24 (cellsB a).toArray (0, 0) _ (by rw [HZ.out]; exact B0.out) under_key rfl (cellsB_size _ HA.out) ?_)
    | (refine wpList_load_row rfl 24 (.tmp 4) rfl (w.heap.size + 1) rfl 24 (cellsB b).toArray (0, 0) _ (by rw [HZ.out]; exact B1.out) under_key rfl (cellsB_size _ HB.out) ?_)
    | (go_at_call 98; rw [HZ.out]; refine (HLT.out _).mono ?_; rintro e w1 ⟨⟨A1, c1, rfl, ho1⟩, hb1⟩; have b1 := bel_on b0 hb1; have TX1 := Lib.hid (HTX.out.below hb1); have O1 := Lib.hid (ho1.le_ (Nat.le_trans hBg b0.size)); have Q1 := Lib.hid (B2.out.below' hb1); clear ho1 hb1)
    | (go_at_call 95; refine (HTK.out _ _ _ TX1.out O1.out).mono ?_; rintro e w2 ⟨rfl, htx2, hk2, hb2⟩; have TX2 := Lib.hid htx2; have K2 := Lib.hid ((KeepT.of_below b1).trans hk2); have Q2 := hk2 _ _ Q1.out; have b2 := Lib.hid ((b1.mono hBg).trans hb2); have hr2 : (rowAt w2 (w.heap.size + 1 + 1)).size = 16 := (by rw [Q2.row]; rfl); have hf2 := Q2.free; have HQ2 := Lib.hid Q2; clear Q2 htx2 hk2 hb2))
  exact bodyPost_ret (results_cell_row rfl _ _ (w.heap.size + 1 + 1) _ _ (0, 0) _ rfl (HQ2.out.setRow (cellsB dg).toArray) under_key rfl (cellsB_size _ HDL.out)) rfl ⟨rfl, TX2.out.row HQ2.out _, K2.out.rowAbove (by omega) _, below_setRow b2.out (by omega) _⟩

theorem textsS_le : ∀ (n : Nat) (l : List (List UInt8)), l.length = n → 1 ≤ n → (textsS l).length ≤ 2 * n := by
  intro n
  induction n using Nat.strongRecOn with
  | _ n ih =>
    intro l hl h1
    rcases Nat.lt_or_ge n 2 with h2 | h2
    · obtain rfl : n = 1 := by omega
      obtain ⟨x, rfl⟩ := List.length_eq_one_iff.1 hl
      rw [textsS_one]; simp
    have s1 := splitS_lt h2
    have s2 := splitS_pos n
    suffices hs : (textsS l).length + 1 ≤ 2 * n by omega
    have : ∀ (n : Nat) (l : List (List UInt8)), l.length = n → 1 ≤ n → (textsS l).length + 1 ≤ 2 * n := by
      intro n
      induction n using Nat.strongRecOn with
      | _ n ih =>
        intro l hl h1
        rcases Nat.lt_or_ge n 2 with h2 | h2
        · obtain rfl : n = 1 := by omega
          obtain ⟨x, rfl⟩ := List.length_eq_one_iff.1 hl
          rw [textsS_one]; simp
        have s1 := splitS_lt h2
        have s2 := splitS_pos n
        rw [textsS_node (by omega), hl]
        have a := ih (splitS n) s1 (l.take (splitS n)) (by rw [List.length_take]; omega) s2
        have b := ih (n - splitS n) (by omega) (l.drop (splitS n)) (by rw [List.length_drop]; omega) (by omega)
        simp only [List.length_append, List.length_cons, List.length_nil]
        omega
    exact this n l hl h1

set_option maxHeartbeats 1000000 in
set_option maxRecDepth 100000 in
theorem textFold_one (w0 : World) (k : List UInt8) (A : Option Addr) (c g : Nat) (ts : List (List UInt8)) (w : World) (h : KR w0 A c [k]) (hw : Below w0.heap.size w0 w) (ht : TX w0.heap.size w g ts) (hts : ts.length ≤ 100000) :
    Calls Tryz.prog 93 #[.slice A 1 c, .func (.func 94) #[] #[.pointer (some ⟨g, 0, none⟩)], .func (.func 97) #[] #[.pointer (some ⟨g, 0, none⟩)]] w fun e w' => e = .returned (.agg (cellsB (rootS [k])).toArray) ∧ TX w0.heap.size w' g (ts ++ textsS [k]) ∧ KeepT w w' ∧ Below w0.heap.size w w' := by
  have hk : k.length = 16 := h.2 k (by simp)
  obtain ⟨b, off, rfl, hb, hr⟩ := (h.below hw).first
  have HK := Lib.hid hk
  have HZ := Lib.hid zero16
  have b0 := alloc_bel w (.cells (cellsB zeroK).toArray 24)
  have B0 := Lib.hid (Blk.new w 24 (cellsB zeroK).toArray)
  have HR := Lib.hid (range_below hr b0)
  have HTX := Lib.hid (ht.below b0)
  have hws : w0.heap.size ≤ w.heap.size := hw.size
  have HD : Hid (∀ W, TX w0.heap.size W g ts → Calls Tryz.prog 94 #[.agg (cellsB k).toArray, .pointer (some ⟨g, 0, none⟩)] W fun e w' => e = .returned (.agg (cellsB (rootS [k])).toArray) ∧ TX w0.heap.size w' g (ts ++ textsS [k]) ∧ KeepT W w' ∧ Below w0.heap.size W w') := fun W hW => by rw [rootS_one, textsS_one]; exact takeLeaf_any ts k g W hk hW hts
  have HDL : Hid ((rootS [k]).length = 16) := rootS_length _
  generalize rootS [k] = d at HD HDL
  generalize textsS [k] = tk at HD
  have hdc : (cellsB d).length = 16 := by rw [cellsB_length, HDL.out]
  have hall := all16 d
  clear hk hr h ht
  go_enter Tryz.func93, Tryz.ntmps93
  go_wp2_with (first
    | (rw [HZ.out]; refine wpList_load_mid rfl 24 (.tmp 13) rfl b off rfl (cellsB k) _ HR.out under_key rfl (key_info HK.out) ?_)
    | (go_at_call 94; refine (HD.out _ HTX.out).mono ?_; rintro e w2 ⟨rfl, htx2, hk2, hb2⟩; have TX2 := Lib.hid htx2; have K2 := Lib.hid ((KeepT.of_below b0).trans hk2); have Q2 := hk2 _ _ B0.out; have b2 := Lib.hid ((b0.mono hws).trans hb2); have hr2 : (rowAt w2 w.heap.size).size = 16 := (by rw [Q2.row]; rfl); have hf2 := Q2.free; have HQ2 := Lib.hid Q2; clear Q2 htx2 hk2 hb2))
  exact bodyPost_ret (results_cell_row rfl _ _ w.heap.size _ _ (0, 0) _ rfl (HQ2.out.setRow (cellsB d).toArray) under_key rfl (cellsB_size _ HDL.out)) rfl ⟨rfl, TX2.out.row HQ2.out _, K2.out.row _, below_setRow b2.out hws _⟩

set_option maxHeartbeats 2000000 in
set_option maxRecDepth 100000 in
theorem textFold_any (w0 : World) (g n : Nat) : ∀ (ks : List (List UInt8)) (A : Option Addr) (c : Nat) (ts : List (List UInt8)) (w : World), ks.length = n → 1 ≤ n → n ≤ 1000 → KR w0 A c ks → Below w0.heap.size w0 w → TX w0.heap.size w g ts → ts.length + 2 * n ≤ 50000 →
    Calls Tryz.prog 93 #[.slice A n c, .func (.func 94) #[] #[.pointer (some ⟨g, 0, none⟩)], .func (.func 97) #[] #[.pointer (some ⟨g, 0, none⟩)]] w fun e w' => e = .returned (.agg (cellsB (rootS ks)).toArray) ∧ TX w0.heap.size w' g (ts ++ textsS ks) ∧ KeepT w w' ∧ Below w0.heap.size w w' := by
  induction n using Nat.strongRecOn with
  | _ n ih =>
    intro ks A c ts w hn h1n hbig h hw ht hts
    rcases Nat.lt_or_ge n 2 with h2 | h2
    · obtain rfl : n = 1 := by omega
      obtain ⟨k, rfl⟩ := List.length_eq_one_iff.1 hn
      exact textFold_one w0 k A c g ts w h hw ht (by omega)
    have hs1 := splitS_pos n
    have hs2 := splitS_lt h2
    have hcl : n ≤ c := by have := Rd.le h.1; omega
    have hni : (2 : Int) ≤ (n : Int) := by omega
    have hnb : (n : Int) ≤ 1000 := by omega
    have hne0 : ¬ (n : Int) = 0 := by omega
    have hne1 : ¬ (n : Int) = 1 := by omega
    have hws : w0.heap.size ≤ w.heap.size := hw.size
    have HSP : Hid (∀ W, Calls Tryz.prog 113 #[.int .i64 (n : Int)] W fun e w' => e = .returned (.int .i64 ((splitS n : Nat) : Int)) ∧ W = w') := fun W => split_any n W h2 hbig
    have HNODE : Hid (rootS ks = digS (nodeT (rootS (ks.take (splitS n))) (rootS (ks.drop (splitS n))))) := by have := rootS_node (l := ks) (by omega); rw [hn] at this; exact this
    have HTEXT : Hid (textsS ks = textsS (ks.take (splitS n)) ++ (textsS (ks.drop (splitS n)) ++ [nodeT (rootS (ks.take (splitS n))) (rootS (ks.drop (splitS n)))])) := by have := textsS_node (l := ks) (by omega); rw [hn] at this; exact this
    have hT1 := textsS_le (splitS n) (ks.take (splitS n)) (by rw [List.length_take]; omega) hs1
    have hT2 := textsS_le (n - splitS n) (ks.drop (splitS n)) (by rw [List.length_drop]; omega) (by omega)
    have HLO : Hid (∀ W, Below w0.heap.size w0 W → TX w0.heap.size W g ts → Calls Tryz.prog 93 #[.slice A (splitS n) c, .func (.func 94) #[] #[.pointer (some ⟨g, 0, none⟩)], .func (.func 97) #[] #[.pointer (some ⟨g, 0, none⟩)]] W fun e w' => e = .returned (.agg (cellsB (rootS (ks.take (splitS n)))).toArray) ∧ TX w0.heap.size w' g (ts ++ textsS (ks.take (splitS n))) ∧ KeepT W w' ∧ Below w0.heap.size W w') := fun W hW hT => ih (splitS n) hs2 _ A c ts W (by rw [List.length_take]; omega) (by omega) (by omega) (h.take _ (by omega)) hW hT (by omega)
    have HHI : Hid (∀ W, Below w0.heap.size w0 W → TX w0.heap.size W g (ts ++ textsS (ks.take (splitS n))) → Calls Tryz.prog 93 #[.slice (dropK A (splitS n) c) (n - splitS n) (c - splitS n), .func (.func 94) #[] #[.pointer (some ⟨g, 0, none⟩)], .func (.func 97) #[] #[.pointer (some ⟨g, 0, none⟩)]] W fun e w' => e = .returned (.agg (cellsB (rootS (ks.drop (splitS n)))).toArray) ∧ TX w0.heap.size w' g ((ts ++ textsS (ks.take (splitS n))) ++ textsS (ks.drop (splitS n))) ∧ KeepT W w' ∧ Below w0.heap.size W w') := fun W hW hT => ih (n - splitS n) (by omega) _ _ _ _ W (by rw [List.length_drop]; omega) (by omega) (by omega) (h.drop _ (by omega)) hW hT (by rw [List.length_append]; omega)
    have hL1 := rootS_length (ks.take (splitS n))
    have hL2 := rootS_length (ks.drop (splitS n))
    have hsl1 := fun W => slice_keys_to W A n c (splitS n) (by omega)
    have hsl2 := fun W => slice_keys_from W A n c (splitS n) (by omega)
    generalize splitS n = k at HSP HNODE HTEXT HLO HHI hL1 hL2 hsl1 hsl2 hs1 hs2 hT1 hT2
    generalize rootS (ks.take k) = r1 at HNODE HTEXT HLO hL1
    generalize rootS (ks.drop k) = r2 at HNODE HTEXT HHI hL2
    generalize textsS (ks.take k) = x1 at HTEXT HLO HHI hT1
    generalize textsS (ks.drop k) = x2 at HTEXT HHI hT2
    have HD : Hid (∀ W, TX w0.heap.size W g ((ts ++ x1) ++ x2) → Calls Tryz.prog 97 #[.agg (cellsB r1).toArray, .agg (cellsB r2).toArray, .pointer (some ⟨g, 0, none⟩)] W fun e w' => e = .returned (.agg (cellsB (digS (nodeT r1 r2))).toArray) ∧ TX w0.heap.size w' g (((ts ++ x1) ++ x2) ++ [nodeT r1 r2]) ∧ KeepT W w' ∧ Below w0.heap.size W w') := fun W hW => takeNode_any _ r1 r2 g W hL1 hL2 hW (by simp only [List.length_append]; omega)
    have HDL : Hid ((digS (nodeT r1 r2)).length = 16) := digS_length _
    generalize digS (nodeT r1 r2) = d at HD HDL HNODE
    generalize nodeT r1 r2 = nt at HD HTEXT
    have HZ := Lib.hid zero16
    have b0 := alloc_bel w (.cells (cellsB zeroK).toArray 24)
    have B0 := Lib.hid (Blk.new w 24 (cellsB zeroK).toArray)
    have HTX := Lib.hid (ht.below b0)
    have HW := Lib.hid hw
    clear ih h hn hbig hL1 hL2 ht hts hT1 hT2 hw
    go_enter Tryz.func93, Tryz.ntmps93
    go_wp2_with (go_at_call 113; rw [HZ.out]; refine (HSP.out _).mono ?_; rintro e w1 ⟨rfl, rfl⟩)
    obtain ⟨W0, hW0⟩ : ∃ W : World, W = w.alloc (.cells (cellsB zeroK).toArray 24) := ⟨_, rfl⟩
    rw [← hW0] at b0 B0 HTX ⊢
    clear hW0
    refine wp_region_noPanic ?_
    refine wp_region_held_drew (S := fun _ => True) (by kernel_rfl) trivial (fun hS => ?_)
    refine hd_take 0 (_) rfl rfl (by kernel_rfl) (by kernel_rfl) (by kernel_rfl) (fun _ _ _ h => h) (fun w _ => by go_simp <;> rfl) hS ?_
    refine hd_take 1 (_) rfl rfl (by kernel_rfl) (by kernel_rfl) (by kernel_rfl) (fun _ _ _ h => h) (fun w _ => by go_simp <;> rfl) hS ?_
    refine hd_take 2 (_) rfl rfl (by kernel_rfl) (by kernel_rfl) (by kernel_rfl) (fun _ _ _ h => h) (fun w _ => by go_simp <;> rfl) hS ?_
    refine hd_take 4 (_) rfl rfl (by kernel_rfl) (by kernel_rfl) (by kernel_rfl) (fun _ _ _ h => h) (fun w _ => by go_simp <;> rfl) hS ?_
    refine hd_take 5 (_) rfl rfl (by kernel_rfl) (by kernel_rfl) (by kernel_rfl) (fun _ _ _ h => h) (fun w _ => by go_simp <;> rfl) hS ?_
    refine hd_take 7 (_) rfl rfl (by kernel_rfl) (by kernel_rfl) (by kernel_rfl) (fun _ _ _ h => h) (fun w _ => by go_simp <;> rfl) hS ?_
    refine hd_take 8 (_) rfl rfl (by kernel_rfl) (by kernel_rfl) (by kernel_rfl) (fun _ _ _ h => h) (fun w _ => by go_simp <;> rfl) hS ?_
    refine hd_take 10 (_) rfl rfl (by kernel_rfl) (by kernel_rfl) (by kernel_rfl) (fun _ _ _ h => h) (fun w _ => by go_simp <;> rfl) hS ?_
    refine hd_take 11 (_) rfl rfl (by kernel_rfl) (by kernel_rfl) (by kernel_rfl) (fun _ _ _ h => h) (fun w _ => by go_simp <;> rfl) hS ?_
    simp only [List.getElem_toArray, List.getElem_cons_succ, List.getElem_cons_zero, Act.put, List.setIfInBounds_toArray, List.set_cons_zero, List.set_cons_succ]
    refine hd_take 3 (_) rfl rfl (by kernel_rfl) (by kernel_rfl) (by kernel_rfl) (fun _ _ _ h => h) (fun w _ => by go_simp <;> rfl) hS ?_
    refine hd_take 9 (_) rfl rfl (by kernel_rfl) (by kernel_rfl) (by kernel_rfl) (fun _ _ _ h => h) (fun w _ => by go_simp <;> rfl) hS ?_
    simp only [List.getElem_toArray, List.getElem_cons_succ, List.getElem_cons_zero, Act.put, List.setIfInBounds_toArray, List.set_cons_zero, List.set_cons_succ]
    have bw : Below w0.heap.size w W0.drew := (b0.mono hws).trans (Below.refl _ _).drew
    have k0 : KeepT w W0.drew := (KeepT.of_below b0).trans (KeepT.of_below (Below.refl _ _).drew)
    refine hd_calls 6 93 #[.slice A k c, .func (.func 94) #[] #[.pointer (some ⟨g, 0, none⟩)], .func (.func 97) #[] #[.pointer (some ⟨g, 0, none⟩)]] rfl rfl (by kernel_rfl) (by go_simp) ((HLO.out _ (HW.out.trans bw) (HTX.out.below (Below.refl _ _).drew)).mono ?_)
    rintro e w3 ⟨rfl, ht3, hk3, hb3⟩
    have b3 := bw.trans hb3
    refine ⟨_, rfl, trivial, ?_⟩
    refine hd_calls 12 93 #[.slice (dropK A k c) (n - k) (c - k), .func (.func 94) #[] #[.pointer (some ⟨g, 0, none⟩)], .func (.func 97) #[] #[.pointer (some ⟨g, 0, none⟩)]] rfl rfl (by kernel_rfl) (by go_simp) ((HHI.out _ (HW.out.trans b3) ht3).mono ?_)
    rintro e w4 ⟨rfl, ht4, hk4, hb4⟩
    have b4 := b3.trans hb4
    refine ⟨_, rfl, trivial, ?_⟩
    simp only [List.getElem_toArray, List.getElem_cons_succ, List.getElem_cons_zero, Act.put, List.setIfInBounds_toArray, List.set_cons_zero, List.set_cons_succ]
    refine hd_calls 13 97 #[.agg (cellsB r1).toArray, .agg (cellsB r2).toArray, .pointer (some ⟨g, 0, none⟩)] rfl rfl (by kernel_rfl) (by go_simp) ((HD.out _ ht4).mono ?_)
    rintro e w6 ⟨rfl, ht6, hk6, hb6⟩
    have b6 := b4.trans hb6
    refine ⟨_, rfl, trivial, ?_⟩
    simp only [List.getElem_toArray, List.getElem_cons_succ, List.getElem_cons_zero, Act.put, List.setIfInBounds_toArray, List.set_cons_zero, List.set_cons_succ]
    have Q6 := hk6 _ _ (hk4 _ _ (hk3 _ _ B0.out.drew))
    have K6 := ((k0.trans hk3).trans hk4).trans hk6
    refine hd_store 14 w.heap.size (cellsB d).toArray _ _ _ rfl rfl rfl (by kernel_rfl) rfl rfl Q6 (cellsB_size _ HDL.out) (by rw [List.size_toArray, List.size_toArray, cellsB_length, cellsB_length, HDL.out]; rfl) (all_oneCell_toArray (cells_one d)) trivial ?_
    refine wpAnyH_done (by kernel_rfl) (NoPanic.normal ?_) _
    simp only [List.getElem_toArray, List.getElem_cons_succ, List.getElem_cons_zero, Act.put, List.setIfInBounds_toArray, List.set_cons_zero, List.set_cons_succ]
    have HT6 := Lib.hid (ht6.row Q6 (cellsB d).toArray)
    have HK6 := Lib.hid (K6.row (cellsB d).toArray)
    have HB6 := Lib.hid (below_setRow b6 hws (cellsB d).toArray)
    have HQ6 := Lib.hid (Q6.setRow (cellsB d).toArray)
    clear ht6 ht4 ht3 hk3 hk4 hk6 K6 k0
    go_wp2_with fail
    exact bodyPost_ret (results_cell_row rfl _ _ w.heap.size _ _ (0, 0) _ rfl HQ6.out under_key rfl (cellsB_size _ HDL.out)) rfl ⟨by rw [HNODE.out], by rw [HTEXT.out]; have := HT6.out; simpa only [List.append_assoc] using this, HK6.out, HB6.out⟩
end Go.Proofs.YtinpiodfpnbllaaGreatDoor

/- The root that a path gives: the program's. -/
namespace Go.Proofs.YtinpiodfpnbllaaGreatDoor
open Go.RowKit
set_option linter.unusedVariables false
set_option linter.unusedSimpArgs false
attribute [local go_sem] run_storeCells_key run_storeCells_new

theorem climbS_le (leaf : List UInt8) : ∀ (n i : Nat) (path : List (List UInt8)), 1 ≤ n → (climbS leaf n i path).2.length ≤ n := by
  intro n
  induction n using Nat.strongRecOn with
  | _ n ih =>
    intro i path h1
    rcases Nat.lt_or_ge n 2 with h2 | h2
    · rw [climbS_one _ (by omega)]; simp; omega
    have s1 := splitS_lt h2
    have s2 := splitS_pos n
    by_cases hi : i < splitS n
    · rw [climbS_low _ _ h2 hi]
      have := ih (splitS n) s1 i (initK path) s2
      simp only [List.length_append, List.length_cons, List.length_nil]; omega
    · rw [climbS_high _ _ h2 hi]
      have := ih (n - splitS n) (by omega) (i - splitS n) (initK path) (by omega)
      simp only [List.length_append, List.length_cons, List.length_nil]; omega
/-- The last key of a path, in memory. -/
theorem KR.lastAt {w : World} {A : Option Addr} {c : Nat} {p : List (List UInt8)} (h : KR w A c p) {m : Nat} (hm : p.length = m + 1) : ∃ b off, A = some ⟨b, off, none⟩ ∧ b < w.heap.size ∧ w.rangeAt b (off + m * 16) (cellsB (lastK p)) ∧ (lastK p).length = 16 := by
  obtain ⟨b, off, e, hb, hr⟩ := h.at_ (i := m) (by omega)
  have hl0 : lastK p = p.getD m [] := by unfold lastK; rw [hm]; rfl
  have hl : lastK p = p[m] := by rw [hl0, List.getD_eq_getElem?_getD, List.getElem?_eq_getElem (by omega)]; rfl
  rw [hl]
  exact ⟨b, off, e, hb, hr, h.2 _ (List.getElem_mem _)⟩
theorem KR.init {w : World} {A : Option Addr} {c : Nat} {p : List (List UInt8)} (h : KR w A c p) : KR w A c (initK p) := h.take _ (by omega)

set_option maxHeartbeats 2000000 in
set_option maxRecDepth 100000 in
theorem climb_one (w0 : World) (g i : Nat) (leaf : List UInt8) (hl : leaf.length = 16) (path : List (List UInt8)) (m : Nat) (A : Option Addr) (c : Nat) (ts : List (List UInt8)) (w : World) (hw : Below w0.heap.size w0 w) (ht : TX w0.heap.size w g ts) (hts : ts.length ≤ 100000) :
    Calls Tryz.prog 152 #[.pointer (some ⟨g, 0, none⟩), .agg (cellsB leaf).toArray, .int .i64 1, .int .i64 (i : Int), .slice A m c] w fun e w' => e = .returned (.agg (cellsB (climbS leaf 1 i path).1).toArray) ∧ TX w0.heap.size w' g (ts ++ (climbS leaf 1 i path).2) ∧ KeepT w w' ∧ Below w0.heap.size w w' := by
  rw [climbS_one _ (by omega)]
  have HZ := Lib.hid zero16
  have HK := Lib.hid hl
  have hws : w0.heap.size ≤ w.heap.size := hw.size
  have b0 := alloc2_bel w (.cells (cellsB leaf).toArray 24) (.cells (cellsB zeroK).toArray 24)
  have B0 := Lib.hid (blk_b0 w (cellsB leaf).toArray 24 (.cells (cellsB zeroK).toArray 24))
  have B1 := Lib.hid (blk_b1 w (.cells (cellsB leaf).toArray 24) (cellsB zeroK).toArray 24)
  have HTX := Lib.hid (ht.below b0)
  have HLT : Hid (∀ W, Calls Tryz.prog 96 #[.agg (cellsB leaf).toArray] W fun e w' => (∃ A c, e = .returned (.slice A 17 c) ∧ OB W.heap.size w' A c (leafT leaf)) ∧ Below W.heap.size W w') := fun W => leafText_any leaf W hl
  have HLL : Hid ((leafT leaf).length = 17) := by unfold Hid leafT; simp [hl]
  dsimp only
  generalize leafT leaf = t at HLT HLL ⊢
  have HTK : Hid (∀ X d W, TX w0.heap.size W g ts → OB w0.heap.size W X d t → Calls Tryz.prog 95 #[.pointer (some ⟨g, 0, none⟩), .slice X 17 d] W fun e w' => e = .returned (.agg (cellsB (digS t)).toArray) ∧ TX w0.heap.size w' g (ts ++ [t]) ∧ KeepT W w' ∧ Below w0.heap.size W w') := fun X d W h1 h2 => take_any ts t X d g W HLL.out h1 h2 (by omega) hts
  have HDL : Hid ((digS t).length = 16) := digS_length _
  generalize digS t = dg at HDL HTK ⊢
  have hdc : (cellsB dg).length = 16 := by rw [cellsB_length, HDL.out]
  have hall := all16 dg
  clear hl ht hw
  go_enter Tryz.func152, Tryz.ntmps152
  go_wp2_with (first
    | (refine wpList_load_row rfl 24 (.tmp 6) rfl w.heap.size rfl 24 (cellsB leaf).toArray (0, 0) _ (by rw [HZ.out]; exact B0.out) under_key rfl (cellsB_size _ HK.out) ?_)
    | (go_at_call 96; rw [HZ.out]; refine (HLT.out _).mono ?_; rintro e w1 ⟨⟨A1, c1, rfl, ho1⟩, hb1⟩; have b1 := bel_on b0 hb1; have TX1 := Lib.hid (HTX.out.below hb1); have O1 := Lib.hid (ho1.le_ (Nat.le_trans hws b0.size)); have Q1 := Lib.hid (B1.out.below' hb1); clear ho1 hb1)
    | (go_at_call 95; refine (HTK.out _ _ _ TX1.out O1.out).mono ?_; rintro e w2 ⟨rfl, htx2, hk2, hb2⟩; have TX2 := Lib.hid htx2; have K2 := Lib.hid ((KeepT.of_below b1).trans hk2); have Q2 := hk2 _ _ Q1.out; have b2 := Lib.hid ((b1.mono hws).trans hb2); have hr2 : (rowAt w2 (w.heap.size + 1)).size = 16 := (by rw [Q2.row]; rfl); have hf2 := Q2.free; have HQ2 := Lib.hid Q2; clear Q2 htx2 hk2 hb2))
  exact bodyPost_ret (results_cell_row rfl _ _ (w.heap.size + 1) _ _ (0, 0) _ rfl (HQ2.out.setRow (cellsB dg).toArray) under_key rfl (cellsB_size _ HDL.out)) rfl ⟨rfl, TX2.out.row HQ2.out _, K2.out.rowAbove (by omega) _, below_setRow b2.out (by omega) _⟩

set_option maxHeartbeats 4000000 in
set_option maxRecDepth 100000 in
theorem climb_any (w0 : World) (g : Nat) (leaf : List UInt8) (hl : leaf.length = 16) (n : Nat) : ∀ (i : Nat) (path : List (List UInt8)) (A : Option Addr) (c : Nat) (ts : List (List UInt8)) (w : World), 1 ≤ n → n ≤ 1000 → i < n → path.length = stepsS n i → KR w0 A c path → Below w0.heap.size w0 w → TX w0.heap.size w g ts → ts.length + n ≤ 50000 →
    Calls Tryz.prog 152 #[.pointer (some ⟨g, 0, none⟩), .agg (cellsB leaf).toArray, .int .i64 (n : Int), .int .i64 (i : Int), .slice A path.length c] w fun e w' => e = .returned (.agg (cellsB (climbS leaf n i path).1).toArray) ∧ TX w0.heap.size w' g (ts ++ (climbS leaf n i path).2) ∧ KeepT w w' ∧ Below w0.heap.size w w' := by
  induction n using Nat.strongRecOn with
  | _ n ih =>
    intro i path A c ts w h1n hbig hin hp h hw ht hts
    rcases Nat.lt_or_ge n 2 with h2 | h2
    · obtain rfl : n = 1 := by omega
      exact climb_one w0 g i leaf hl path path.length A c ts w hw ht (by omega)
    have hs1 := splitS_pos n
    have hs2 := splitS_lt h2
    have hni : (2 : Int) ≤ (n : Int) := by omega
    have hnb : (n : Int) ≤ 1000 := by omega
    have hib : (i : Int) < (n : Int) := by omega
    have hne1 : ¬ (n : Int) = 1 := by omega
    have hws : w0.heap.size ≤ w.heap.size := hw.size
    have hcl := Rd.le h.1
    have hcap := Rd.len h.1
    have HSP : Hid (∀ W, Calls Tryz.prog 113 #[.int .i64 (n : Int)] W fun e w' => e = .returned (.int .i64 ((splitS n : Nat) : Int)) ∧ W = w') := fun W => split_any n W h2 (by omega)
    have b0 := alloc2_bel w (.cells (cellsB leaf).toArray 24) (.cells (cellsB zeroK).toArray 24)
    have B0 := Lib.hid (blk_b0 w (cellsB leaf).toArray 24 (.cells (cellsB zeroK).toArray 24))
    have B1 := Lib.hid (blk_b1 w (.cells (cellsB leaf).toArray 24) (cellsB zeroK).toArray 24)
    have HTX := Lib.hid (ht.below b0)
    have HW := Lib.hid hw
    have HZ := Lib.hid zero16
    have HK := Lib.hid hl
    by_cases hk : i < splitS n
    · have hki : (i : Int) < ((splitS n : Nat) : Int) := by omega
      obtain ⟨m, hm⟩ : ∃ m, path.length = m + 1 := ⟨path.length - 1, by rw [hp, stepsS_low h2 hk]; omega⟩
      rw [climbS_low _ _ h2 hk]
      have hq2 := climbS_le leaf (splitS n) (i) (initK path) (by omega)
      have hql := climbS_length leaf (splitS n) (i) (initK path)
      have HC : Hid (∀ W, Below w0.heap.size w0 W → TX w0.heap.size W g ts → Calls Tryz.prog 152 #[.pointer (some ⟨g, 0, none⟩), .agg (cellsB leaf).toArray, .int .i64 ((splitS n : Nat) : Int), .int .i64 (i : Int), .slice A m c] W fun e w' => e = .returned (.agg (cellsB (climbS leaf (splitS n) i (initK path)).1).toArray) ∧ TX w0.heap.size w' g (ts ++ (climbS leaf (splitS n) i (initK path)).2) ∧ KeepT W w' ∧ Below w0.heap.size W w') := fun W hW hT => by
        have hlen : m = (initK path).length := by rw [initK_length, hm]; omega
        rw [hlen]
        exact (ih (splitS n) hs2 i (initK path) A c ts W hs1 (by omega) hk (by rw [initK_length, hp, stepsS_low h2 hk]; omega) h.init hW hT (by omega))
      obtain ⟨b, off, rfl, hb, hr, hhl⟩ := h.lastAt hm
      have HR : Hid (∀ W, Below w0.heap.size w0 W → W.rangeAt b (off + m * 16) (cellsB (lastK path))) := fun W hW => range_below hr hW
      have HH := Lib.hid hhl
      have hmi : (m : Int) ≤ 140737488351232 := by omega
      have hmc : m ≤ c := by omega
      have hmlt : (m : Int) < (m : Int) + 1 := by omega
      have hsl := fun W => slice_keys_to W (some ⟨b, off, none⟩) (m + 1) c m hmc
      generalize climbS leaf (splitS n) i (initK path) = r at HC hq2 hql ⊢
      obtain ⟨q, x⟩ := r
      dsimp only at HC hq2 hql ⊢
      generalize lastK path = h0 at HR HH ⊢
      rw [hm]
      generalize splitS n = k at *
      have HNT : Hid (∀ W, Calls Tryz.prog 98 #[.agg (cellsB q).toArray, .agg (cellsB h0).toArray] W fun e w' => (∃ A c, e = .returned (.slice A 33 c) ∧ OB W.heap.size w' A c (nodeT q h0)) ∧ Below W.heap.size W w') := fun W => nodeText_any q h0 W (by first | exact hql | exact HH.out) (by first | exact HH.out | exact hql)
      have HNL : Hid ((nodeT q h0).length = 33) := by unfold Hid nodeT; simp [hql, HH.out]
      generalize nodeT q h0 = t at HNT HNL ⊢
      have HTK : Hid (∀ X d W, TX w0.heap.size W g (ts ++ x) → OB w0.heap.size W X d t → Calls Tryz.prog 95 #[.pointer (some ⟨g, 0, none⟩), .slice X 33 d] W fun e w' => e = .returned (.agg (cellsB (digS t)).toArray) ∧ TX w0.heap.size w' g ((ts ++ x) ++ [t]) ∧ KeepT W w' ∧ Below w0.heap.size W w') := fun X d W h1 h2 => take_any _ t X d g W HNL.out h1 h2 (by omega) (by rw [List.length_append]; omega)
      have HDL : Hid ((digS t).length = 16) := digS_length _
      generalize digS t = dg at HDL HTK ⊢
      have HBW : Hid (b < w0.heap.size) := hb
      clear ih h hp hm hw ht hts hq2 hr hhl hb hl
      go_enter Tryz.func152, Tryz.ntmps152
      go_wp2_with (go_at_call 113; rw [HZ.out]; refine (HSP.out _).mono ?_; rintro e w1 ⟨rfl, rfl⟩)
      obtain ⟨W0, hW0⟩ : ∃ W : World, W = (w.alloc (.cells (cellsB leaf).toArray 24)).alloc (.cells (cellsB zeroK).toArray 24) := ⟨_, rfl⟩
      rw [← hW0] at b0 B0 B1 HTX ⊢
      clear hW0
      refine wp_region_noPanic ?_
      have bw : Below w0.heap.size w0 W0.drew := HW.out.trans ((b0.mono hws).trans (Below.refl _ _).drew)
      refine wp_region_held_drew (S := fun w' => w'.rangeAt w.heap.size 0 (cellsB leaf) ∧ w'.rangeAt b (off + m * 16) (cellsB h0)) (by kernel_rfl) ⟨B0.out.drew.range, HR.out _ bw⟩ (fun hS => ?_)
      refine hd_take 0 (_) rfl rfl (by kernel_rfl) (by kernel_rfl) (by kernel_rfl) (fun _ _ _ h => h) (fun w _ => by go_simp <;> rfl) hS ?_
      refine hd_take 1 (_) rfl rfl (by kernel_rfl) (by kernel_rfl) (by kernel_rfl) (fun _ _ _ h => h) (fun w _ => by go_simp <;> rfl) hS ?_
      refine hd_take 3 (_) rfl rfl (by kernel_rfl) (by kernel_rfl) (by kernel_rfl) (fun _ _ _ h => h) (fun w _ => by go_simp <;> rfl) hS ?_
      refine hd_take 4 (_) rfl rfl (by kernel_rfl) (by kernel_rfl) (by kernel_rfl) (fun _ _ _ h => h) (fun w _ => by go_simp <;> rfl) hS ?_
      refine hd_take 5 (_) rfl rfl (by kernel_rfl) (by kernel_rfl) (by kernel_rfl) (fun _ _ _ h => h) (fun w _ => by go_simp <;> rfl) hS ?_
      refine hd_take 6 (_) rfl rfl (by kernel_rfl) (by kernel_rfl) (by kernel_rfl) (fun _ _ _ h => h) (fun w _ => by go_simp <;> rfl) hS ?_
      refine hd_take 9 (_) rfl rfl (by kernel_rfl) (by kernel_rfl) (by kernel_rfl) (fun _ _ _ h => h) (fun w _ => by go_simp <;> rfl) hS ?_
      refine hd_take 10 (_) rfl rfl (by kernel_rfl) (by kernel_rfl) (by kernel_rfl) (fun _ _ _ h => h) (fun w _ => by go_simp <;> rfl) hS ?_
      simp only [List.getElem_toArray, List.getElem_cons_succ, List.getElem_cons_zero, Act.put, List.setIfInBounds_toArray, List.set_cons_zero, List.set_cons_succ]
      refine hd_take 7 (_) rfl rfl (by kernel_rfl) (by kernel_rfl) (by kernel_rfl) (fun _ _ _ h => h) (fun w _ => by go_simp <;> rfl) hS ?_
      refine hd_take 11 (_) rfl rfl (by kernel_rfl) (by kernel_rfl) (by kernel_rfl) (fun _ _ _ h => h) (fun w _ => by go_simp <;> rfl) hS ?_
      simp only [List.getElem_toArray, List.getElem_cons_succ, List.getElem_cons_zero, Act.put, List.setIfInBounds_toArray, List.set_cons_zero, List.set_cons_succ]
      refine hd_load 2 w.heap.size 0 (cellsB leaf) _ _ rfl rfl rfl (by kernel_rfl) (by kernel_rfl) (by kernel_rfl) (fun _ _ _ h => h) rfl (fun w hw => hw.1) under_key rfl (key_info HK.out) hS ?_
      refine hd_load 12 b (off + m * 16) (cellsB h0) _ _ rfl rfl rfl (by kernel_rfl) (by kernel_rfl) (by kernel_rfl) (fun _ _ _ h => h) rfl (fun w hw => hw.2) under_key rfl (key_info HH.out) hS ?_
      simp only [List.getElem_toArray, List.getElem_cons_succ, List.getElem_cons_zero, Act.put, List.setIfInBounds_toArray, List.set_cons_zero, List.set_cons_succ]
      refine hd_calls 8 152 #[.pointer (some ⟨g, 0, none⟩), .agg (cellsB leaf).toArray, .int .i64 (k : Int), .int .i64 (i : Int), .slice (some ⟨b, off, none⟩) m c] rfl rfl (by kernel_rfl) (by go_simp) ((HC.out _ bw (HTX.out.below (Below.refl _ _).drew)).mono ?_)
      rintro e w3 ⟨rfl, ht3, hk3, hb3⟩
      have Q3 := hk3 _ _ B0.out.drew
      have R3 := hk3 _ _ B1.out.drew
      have b3 := bw.trans hb3
      have k3 : KeepT w w3 := ((KeepT.of_below b0).trans (KeepT.of_below (Below.refl _ _).drew)).trans hk3
      refine ⟨_, rfl, ⟨Q3.range, HR.out _ b3⟩, ?_⟩
      simp only [List.getElem_toArray, List.getElem_cons_succ, List.getElem_cons_zero, Act.put, List.setIfInBounds_toArray, List.set_cons_zero, List.set_cons_succ]
      refine hd_calls 13 98 #[.agg (cellsB q).toArray, .agg (cellsB h0).toArray] rfl rfl (by kernel_rfl) (by go_simp) ((HNT.out _).mono ?_)
      rintro e w4 ⟨⟨A4, c4, rfl, ho4⟩, hb4⟩
      have Q4 := Q3.below' hb4
      have R4 := R3.below' hb4
      have b4 := bel_on b3 hb4
      have t4 := ht3.below hb4
      have o4 := ho4.le_ b3.size
      refine ⟨_, rfl, ⟨Q4.range, HR.out _ b4⟩, ?_⟩
      simp only [List.getElem_toArray, List.getElem_cons_succ, List.getElem_cons_zero, Act.put, List.setIfInBounds_toArray, List.set_cons_zero, List.set_cons_succ]
      refine hd_calls 14 95 #[.pointer (some ⟨g, 0, none⟩), .slice A4 33 c4] rfl rfl (by kernel_rfl) (by go_simp) ((HTK.out _ _ _ t4 o4).mono ?_)
      rintro e w6 ⟨rfl, ht6, hk6, hb6⟩
      have Q6 := hk6 _ _ Q4
      have R6 := hk6 _ _ R4
      have b6 := b4.trans hb6
      have K6 : KeepT w w6 := (k3.trans (KeepT.of_below hb4)).trans hk6
      refine ⟨_, rfl, ⟨Q6.range, HR.out _ b6⟩, ?_⟩
      simp only [List.getElem_toArray, List.getElem_cons_succ, List.getElem_cons_zero, Act.put, List.setIfInBounds_toArray, List.set_cons_zero, List.set_cons_succ]
      have hS7 := And.intro (range_setRow Q6.range (g' := w.heap.size + 1) (by omega) (cellsB dg).toArray) (range_setRow (HR.out _ b6) (g' := w.heap.size + 1) (by have := HBW.out; omega) (cellsB dg).toArray)
      refine hd_store 15 (w.heap.size + 1) (cellsB dg).toArray _ _ _ rfl rfl rfl (by kernel_rfl) rfl rfl R6 (cellsB_size _ HDL.out) (by rw [List.size_toArray, List.size_toArray, cellsB_length, cellsB_length, HDL.out]; rfl) (all_oneCell_toArray (cells_one dg)) hS7 ?_
      refine wpAnyH_done (by kernel_rfl) (NoPanic.normal ?_) _
      simp only [List.getElem_toArray, List.getElem_cons_succ, List.getElem_cons_zero, Act.put, List.setIfInBounds_toArray, List.set_cons_zero, List.set_cons_succ]
      have HT6 := Lib.hid (ht6.row R6 (cellsB dg).toArray)
      have HK6 := Lib.hid (K6.rowAbove (g := w.heap.size + 1) (by omega) (cellsB dg).toArray)
      have HB6 := Lib.hid (below_setRow ((b0.mono hws).trans ((Below.refl _ W0).drew.trans ((hb3.trans (hb4.mono b3.size)).trans hb6))) (g := w.heap.size + 1) (by omega) (cellsB dg).toArray)
      have HQ6 := Lib.hid (R6.setRow (cellsB dg).toArray)
      clear ht6 t4 ht3 hk3 hk6 K6 k3 Q3 R3 Q4 R4 Q6 R6 hS hS7 o4 ho4
      go_wp2_with fail
      exact bodyPost_ret (results_cell_row rfl _ _ (w.heap.size + 1) _ _ (0, 0) _ rfl HQ6.out under_key rfl (cellsB_size _ HDL.out)) rfl ⟨rfl, by have := HT6.out; simpa only [List.append_assoc] using this, HK6.out, HB6.out⟩
    · have hki : ¬ (i : Int) < ((splitS n : Nat) : Int) := by omega
      have hki2 : ((splitS n : Nat) : Int) ≤ (i : Int) := by omega
      have hkn : ((splitS n : Nat) : Int) < (n : Int) := by omega
      have w1 : IntKind.i64.wrap ((n : Int) - ((splitS n : Nat) : Int)) = (n : Int) - ((splitS n : Nat) : Int) := by rw [IntKind.wrap_i64]; omega
      have w2 : IntKind.i64.wrap ((i : Int) - ((splitS n : Nat) : Int)) = (i : Int) - ((splitS n : Nat) : Int) := by rw [IntKind.wrap_i64]; omega
      obtain ⟨m, hm⟩ : ∃ m, path.length = m + 1 := ⟨path.length - 1, by rw [hp, stepsS_high h2 hk]; omega⟩
      rw [climbS_high _ _ h2 hk]
      have hq2 := climbS_le leaf (n - splitS n) (i - splitS n) (initK path) (by omega)
      have hql := climbS_length leaf (n - splitS n) (i - splitS n) (initK path)
      have HC : Hid (∀ W, Below w0.heap.size w0 W → TX w0.heap.size W g ts → Calls Tryz.prog 152 #[.pointer (some ⟨g, 0, none⟩), .agg (cellsB leaf).toArray, .int .i64 ((n : Int) - ((splitS n : Nat) : Int)), .int .i64 ((i : Int) - ((splitS n : Nat) : Int)), .slice A m c] W fun e w' => e = .returned (.agg (cellsB (climbS leaf (n - splitS n) (i - splitS n) (initK path)).1).toArray) ∧ TX w0.heap.size w' g (ts ++ (climbS leaf (n - splitS n) (i - splitS n) (initK path)).2) ∧ KeepT W w' ∧ Below w0.heap.size W w') := fun W hW hT => by
        have hlen : m = (initK path).length := by rw [initK_length, hm]; omega
        rw [hlen]
        exact (by
        rw [show (n : Int) - ((splitS n : Nat) : Int) = ((n - splitS n : Nat) : Int) from by omega, show (i : Int) - ((splitS n : Nat) : Int) = ((i - splitS n : Nat) : Int) from by omega]
        exact ih (n - splitS n) (by omega) (i - splitS n) (initK path) A c ts W (by omega) (by omega) (by omega) (by rw [initK_length, hp, stepsS_high h2 hk]; omega) h.init hW hT (by omega))
      obtain ⟨b, off, rfl, hb, hr, hhl⟩ := h.lastAt hm
      have HR : Hid (∀ W, Below w0.heap.size w0 W → W.rangeAt b (off + m * 16) (cellsB (lastK path))) := fun W hW => range_below hr hW
      have HH := Lib.hid hhl
      have hmi : (m : Int) ≤ 140737488351232 := by omega
      have hmc : m ≤ c := by omega
      have hmlt : (m : Int) < (m : Int) + 1 := by omega
      have hsl := fun W => slice_keys_to W (some ⟨b, off, none⟩) (m + 1) c m hmc
      generalize climbS leaf (n - splitS n) (i - splitS n) (initK path) = r at HC hq2 hql ⊢
      obtain ⟨q, x⟩ := r
      dsimp only at HC hq2 hql ⊢
      generalize lastK path = h0 at HR HH ⊢
      rw [hm]
      generalize splitS n = k at *
      have HNT : Hid (∀ W, Calls Tryz.prog 98 #[.agg (cellsB h0).toArray, .agg (cellsB q).toArray] W fun e w' => (∃ A c, e = .returned (.slice A 33 c) ∧ OB W.heap.size w' A c (nodeT h0 q)) ∧ Below W.heap.size W w') := fun W => nodeText_any h0 q W (by first | exact hql | exact HH.out) (by first | exact HH.out | exact hql)
      have HNL : Hid ((nodeT h0 q).length = 33) := by unfold Hid nodeT; simp [hql, HH.out]
      generalize nodeT h0 q = t at HNT HNL ⊢
      have HTK : Hid (∀ X d W, TX w0.heap.size W g (ts ++ x) → OB w0.heap.size W X d t → Calls Tryz.prog 95 #[.pointer (some ⟨g, 0, none⟩), .slice X 33 d] W fun e w' => e = .returned (.agg (cellsB (digS t)).toArray) ∧ TX w0.heap.size w' g ((ts ++ x) ++ [t]) ∧ KeepT W w' ∧ Below w0.heap.size W w') := fun X d W h1 h2 => take_any _ t X d g W HNL.out h1 h2 (by omega) (by rw [List.length_append]; omega)
      have HDL : Hid ((digS t).length = 16) := digS_length _
      generalize digS t = dg at HDL HTK ⊢
      have HBW : Hid (b < w0.heap.size) := hb
      clear ih h hp hm hw ht hts hq2 hr hhl hb hl
      go_enter Tryz.func152, Tryz.ntmps152
      go_wp2_with (go_at_call 113; rw [HZ.out]; refine (HSP.out _).mono ?_; rintro e w1 ⟨rfl, rfl⟩)
      obtain ⟨W0, hW0⟩ : ∃ W : World, W = (w.alloc (.cells (cellsB leaf).toArray 24)).alloc (.cells (cellsB zeroK).toArray 24) := ⟨_, rfl⟩
      rw [← hW0] at b0 B0 B1 HTX ⊢
      clear hW0
      refine wp_region_noPanic ?_
      have bw : Below w0.heap.size w0 W0.drew := HW.out.trans ((b0.mono hws).trans (Below.refl _ _).drew)
      refine wp_region_held_drew (S := fun w' => w'.rangeAt w.heap.size 0 (cellsB leaf) ∧ w'.rangeAt b (off + m * 16) (cellsB h0)) (by kernel_rfl) ⟨B0.out.drew.range, HR.out _ bw⟩ (fun hS => ?_)
      refine hd_take 0 (_) rfl rfl (by kernel_rfl) (by kernel_rfl) (by kernel_rfl) (fun _ _ _ h => h) (fun w _ => by go_simp <;> rfl) hS ?_
      refine hd_take 1 (_) rfl rfl (by kernel_rfl) (by kernel_rfl) (by kernel_rfl) (fun _ _ _ h => h) (fun w _ => by go_simp <;> rfl) hS ?_
      refine hd_take 2 (_) rfl rfl (by kernel_rfl) (by kernel_rfl) (by kernel_rfl) (fun _ _ _ h => h) (fun w _ => by go_simp <;> rfl) hS ?_
      refine hd_take 5 (_) rfl rfl (by kernel_rfl) (by kernel_rfl) (by kernel_rfl) (fun _ _ _ h => h) (fun w _ => by go_simp <;> rfl) hS ?_
      refine hd_take 7 (_) rfl rfl (by kernel_rfl) (by kernel_rfl) (by kernel_rfl) (fun _ _ _ h => h) (fun w _ => by go_simp <;> rfl) hS ?_
      refine hd_take 8 (_) rfl rfl (by kernel_rfl) (by kernel_rfl) (by kernel_rfl) (fun _ _ _ h => h) (fun w _ => by go_simp <;> rfl) hS ?_
      refine hd_take 10 (_) rfl rfl (by kernel_rfl) (by kernel_rfl) (by kernel_rfl) (fun _ _ _ h => h) (fun w _ => by go_simp <;> rfl) hS ?_
      refine hd_take 11 (_) rfl rfl (by kernel_rfl) (by kernel_rfl) (by kernel_rfl) (fun _ _ _ h => h) (fun w _ => by go_simp <;> rfl) hS ?_
      refine hd_take 13 (_) rfl rfl (by kernel_rfl) (by kernel_rfl) (by kernel_rfl) (fun _ _ _ h => h) (fun w _ => by go_simp <;> rfl) hS ?_
      refine hd_take 14 (_) rfl rfl (by kernel_rfl) (by kernel_rfl) (by kernel_rfl) (fun _ _ _ h => h) (fun w _ => by go_simp <;> rfl) hS ?_
      simp only [List.getElem_toArray, List.getElem_cons_succ, List.getElem_cons_zero, Act.put, List.setIfInBounds_toArray, List.set_cons_zero, List.set_cons_succ]
      refine hd_take 3 (_) rfl rfl (by kernel_rfl) (by kernel_rfl) (by kernel_rfl) (fun _ _ _ h => h) (fun w _ => by go_simp <;> rfl) hS ?_
      refine hd_take 9 (_) rfl rfl (by kernel_rfl) (by kernel_rfl) (by kernel_rfl) (fun _ _ _ h => h) (fun w _ => by go_simp <;> rfl) hS ?_
      refine hd_take 12 (_) rfl rfl (by kernel_rfl) (by kernel_rfl) (by kernel_rfl) (fun _ _ _ h => h) (fun w _ => by go_simp <;> rfl) hS ?_
      refine hd_take 15 (_) rfl rfl (by kernel_rfl) (by kernel_rfl) (by kernel_rfl) (fun _ _ _ h => h) (fun w _ => by go_simp <;> rfl) hS ?_
      simp only [List.getElem_toArray, List.getElem_cons_succ, List.getElem_cons_zero, Act.put, List.setIfInBounds_toArray, List.set_cons_zero, List.set_cons_succ]
      refine hd_load 6 w.heap.size 0 (cellsB leaf) _ _ rfl rfl rfl (by kernel_rfl) (by kernel_rfl) (by kernel_rfl) (fun _ _ _ h => h) rfl (fun w hw => hw.1) under_key rfl (key_info HK.out) hS ?_
      refine hd_load 4 b (off + m * 16) (cellsB h0) _ _ rfl rfl rfl (by kernel_rfl) (by kernel_rfl) (by kernel_rfl) (fun _ _ _ h => h) rfl (fun w hw => hw.2) under_key rfl (key_info HH.out) hS ?_
      simp only [List.getElem_toArray, List.getElem_cons_succ, List.getElem_cons_zero, Act.put, List.setIfInBounds_toArray, List.set_cons_zero, List.set_cons_succ]
      refine hd_calls 16 152 #[.pointer (some ⟨g, 0, none⟩), .agg (cellsB leaf).toArray, .int .i64 ((n : Int) - (k : Int)), .int .i64 ((i : Int) - (k : Int)), .slice (some ⟨b, off, none⟩) m c] rfl rfl (by kernel_rfl) (by go_simp) ((HC.out _ bw (HTX.out.below (Below.refl _ _).drew)).mono ?_)
      rintro e w3 ⟨rfl, ht3, hk3, hb3⟩
      have Q3 := hk3 _ _ B0.out.drew
      have R3 := hk3 _ _ B1.out.drew
      have b3 := bw.trans hb3
      have k3 : KeepT w w3 := ((KeepT.of_below b0).trans (KeepT.of_below (Below.refl _ _).drew)).trans hk3
      refine ⟨_, rfl, ⟨Q3.range, HR.out _ b3⟩, ?_⟩
      simp only [List.getElem_toArray, List.getElem_cons_succ, List.getElem_cons_zero, Act.put, List.setIfInBounds_toArray, List.set_cons_zero, List.set_cons_succ]
      refine hd_calls 17 98 #[.agg (cellsB h0).toArray, .agg (cellsB q).toArray] rfl rfl (by kernel_rfl) (by go_simp) ((HNT.out _).mono ?_)
      rintro e w4 ⟨⟨A4, c4, rfl, ho4⟩, hb4⟩
      have Q4 := Q3.below' hb4
      have R4 := R3.below' hb4
      have b4 := bel_on b3 hb4
      have t4 := ht3.below hb4
      have o4 := ho4.le_ b3.size
      refine ⟨_, rfl, ⟨Q4.range, HR.out _ b4⟩, ?_⟩
      simp only [List.getElem_toArray, List.getElem_cons_succ, List.getElem_cons_zero, Act.put, List.setIfInBounds_toArray, List.set_cons_zero, List.set_cons_succ]
      refine hd_calls 18 95 #[.pointer (some ⟨g, 0, none⟩), .slice A4 33 c4] rfl rfl (by kernel_rfl) (by go_simp) ((HTK.out _ _ _ t4 o4).mono ?_)
      rintro e w6 ⟨rfl, ht6, hk6, hb6⟩
      have Q6 := hk6 _ _ Q4
      have R6 := hk6 _ _ R4
      have b6 := b4.trans hb6
      have K6 : KeepT w w6 := (k3.trans (KeepT.of_below hb4)).trans hk6
      refine ⟨_, rfl, ⟨Q6.range, HR.out _ b6⟩, ?_⟩
      simp only [List.getElem_toArray, List.getElem_cons_succ, List.getElem_cons_zero, Act.put, List.setIfInBounds_toArray, List.set_cons_zero, List.set_cons_succ]
      have hS7 := And.intro (range_setRow Q6.range (g' := w.heap.size + 1) (by omega) (cellsB dg).toArray) (range_setRow (HR.out _ b6) (g' := w.heap.size + 1) (by have := HBW.out; omega) (cellsB dg).toArray)
      refine hd_store 19 (w.heap.size + 1) (cellsB dg).toArray _ _ _ rfl rfl rfl (by kernel_rfl) rfl rfl R6 (cellsB_size _ HDL.out) (by rw [List.size_toArray, List.size_toArray, cellsB_length, cellsB_length, HDL.out]; rfl) (all_oneCell_toArray (cells_one dg)) hS7 ?_
      refine wpAnyH_done (by kernel_rfl) (NoPanic.normal ?_) _
      simp only [List.getElem_toArray, List.getElem_cons_succ, List.getElem_cons_zero, Act.put, List.setIfInBounds_toArray, List.set_cons_zero, List.set_cons_succ]
      have HT6 := Lib.hid (ht6.row R6 (cellsB dg).toArray)
      have HK6 := Lib.hid (K6.rowAbove (g := w.heap.size + 1) (by omega) (cellsB dg).toArray)
      have HB6 := Lib.hid (below_setRow ((b0.mono hws).trans ((Below.refl _ W0).drew.trans ((hb3.trans (hb4.mono b3.size)).trans hb6))) (g := w.heap.size + 1) (by omega) (cellsB dg).toArray)
      have HQ6 := Lib.hid (R6.setRow (cellsB dg).toArray)
      clear ht6 t4 ht3 hk3 hk6 K6 k3 Q3 R3 Q4 R4 Q6 R6 hS hS7 o4 ho4
      go_wp2_with fail
      exact bodyPost_ret (results_cell_row rfl _ _ (w.heap.size + 1) _ _ (0, 0) _ rfl HQ6.out under_key rfl (cellsB_size _ HDL.out)) rfl ⟨rfl, by have := HT6.out; simpa only [List.append_assoc] using this, HK6.out, HB6.out⟩
end Go.Proofs.YtinpiodfpnbllaaGreatDoor

/- Which proofs and growths fit: the program's test. -/
namespace Go.Proofs.YtinpiodfpnbllaaGreatDoor
open Go.RowKit
set_option linter.unusedVariables false
set_option linter.unusedSimpArgs false

def fitsB (a b : Int) (n : Nat) : Bool := decide (1 ≤ a ∧ a ≤ 128 ∧ 0 ≤ b ∧ b < a) && decide (n = stepsS a.toNat b.toNat)
def fitsGB (a b : Int) (n : Nat) : Bool := decide (1 ≤ a ∧ a ≤ b ∧ b ≤ 128) && decide (n = partsS b.toNat a.toNat true)
theorem fitsB_no {a b : Int} {n : Nat} (h : ¬ (1 ≤ a ∧ a ≤ 128 ∧ 0 ≤ b ∧ b < a)) : fitsB a b n = false := by unfold fitsB; rw [decide_eq_false h]; rfl
theorem fitsB_in {a b : Int} {n : Nat} (h : 1 ≤ a ∧ a ≤ 128 ∧ 0 ≤ b ∧ b < a) : fitsB a b n = decide (n = stepsS a.toNat b.toNat) := by unfold fitsB; rw [decide_eq_true h]; rfl
theorem fitsGB_no {a b : Int} {n : Nat} (h : ¬ (1 ≤ a ∧ a ≤ b ∧ b ≤ 128)) : fitsGB a b n = false := by unfold fitsGB; rw [decide_eq_false h]; rfl
theorem fitsGB_in {a b : Int} {n : Nat} (h : 1 ≤ a ∧ a ≤ b ∧ b ≤ 128) : fitsGB a b n = decide (n = partsS b.toNat a.toNat true) := by unfold fitsGB; rw [decide_eq_true h]; rfl
theorem fitsB_iff {a b : Int} {n : Nat} : fitsB a b n = true ↔ (1 ≤ a ∧ a ≤ 128 ∧ 0 ≤ b ∧ b < a) ∧ n = stepsS a.toNat b.toNat := by simp [fitsB]
theorem fitsGB_iff {a b : Int} {n : Nat} : fitsGB a b n = true ↔ (1 ≤ a ∧ a ≤ b ∧ b ≤ 128) ∧ n = partsS b.toNat a.toNat true := by simp [fitsGB]

set_option maxHeartbeats 2000000 in
set_option maxRecDepth 100000 in
theorem fits_any (a b : Int) (A : Option Addr) (n c : Nat) (w : World) (hn : n ≤ 140737488351232) :
    Calls Tryz.prog 73 #[.agg (prC a b A n c).toArray] w fun e w' => e = .returned (.bool (fitsB a b n)) ∧ Below w.heap.size w w' := by
  have b0 := alloc_bel w (.cells #[.int .i64 a, .int .i64 b, .slice A n c] 27)
  have hni : (n : Int) ≤ 140737488351232 := by omega
  unfold prC
  rcases (by omega : a < 1 ∨ (1 ≤ a ∧ 128 < a) ∨ (1 ≤ a ∧ a ≤ 128 ∧ b < 0) ∨ (1 ≤ a ∧ a ≤ 128 ∧ 0 ≤ b ∧ a ≤ b) ∨ (1 ≤ a ∧ a ≤ 128 ∧ 0 ≤ b ∧ b < a)) with h | ⟨h1, h2⟩ | ⟨h1, h2, h3⟩ | ⟨h1, h2, h3, h4⟩ | ⟨h1, h2, h3, h4⟩
  · have HF : Hid (fitsB a b n = false) := fitsB_no (by omega)
    go_enter Tryz.func73, Tryz.ntmps73
    go_wp2
    go_ret
    exact ⟨by rw [HF.out]; rfl, b0⟩
  · have HF : Hid (fitsB a b n = false) := fitsB_no (by omega)
    go_enter Tryz.func73, Tryz.ntmps73
    go_wp2
    go_ret
    exact ⟨by rw [HF.out]; rfl, b0⟩
  · have HF : Hid (fitsB a b n = false) := fitsB_no (by omega)
    go_enter Tryz.func73, Tryz.ntmps73
    go_wp2
    go_ret
    exact ⟨by rw [HF.out]; rfl, b0⟩
  · have HF : Hid (fitsB a b n = false) := fitsB_no (by omega)
    go_enter Tryz.func73, Tryz.ntmps73
    go_wp2
    go_ret
    exact ⟨by rw [HF.out]; rfl, b0⟩
  · have HF : Hid (fitsB a b n = decide (n = stepsS a.toNat b.toNat)) := fitsB_in ⟨h1, h2, h3, h4⟩
    obtain ⟨p, rfl⟩ : ∃ p : Nat, a = (p : Int) := ⟨a.toNat, by omega⟩
    obtain ⟨q, rfl⟩ : ∃ q : Nat, b = (q : Int) := ⟨b.toNat, by omega⟩
    rw [Int.toNat_natCast, Int.toNat_natCast] at HF
    obtain ⟨T, hT⟩ : ∃ T, stepsS p q = T := ⟨_, rfl⟩
    have HT := Lib.hid hT
    rw [hT] at HF
    clear hT
    have hqp : q < p := by omega
    have hp1 : 1 ≤ p := by omega
    have hp2 : p ≤ 128 := by omega
    have HB0 := Lib.hid b0
    have c0 : Hid ((w.alloc (.cells #[.int .i64 (p : Int), .int .i64 (q : Int), .slice A n c] 27)).cell? ⟨w.heap.size, 0, none⟩ = some (.int .i64 (p : Int))) := (Blk.new w _ _).cell 0
    have c1 : Hid ((w.alloc (.cells #[.int .i64 (p : Int), .int .i64 (q : Int), .slice A n c] 27)).cell? ⟨w.heap.size, 1, none⟩ = some (.int .i64 (q : Int))) := (Blk.new w _ _).cell 1
    have c2 : Hid ((w.alloc (.cells #[.int .i64 (p : Int), .int .i64 (q : Int), .slice A n c] 27)).cell? ⟨w.heap.size, 2, none⟩ = some (.slice A n c)) := (Blk.new w _ _).cell 2
    clear b0
    go_enter Tryz.func73, Tryz.ntmps73
    go_wp2_with fail
    generalize w.alloc (.cells #[.int .i64 (p : Int), .int .i64 (q : Int), .slice A n c] 27) = W0 at HB0 c0 c1 c2 ⊢
    refine wp_region_noPanic ?_
    refine wp_region_held_drew (S := fun w' => w'.cell? ⟨w.heap.size, 0, none⟩ = some (.int .i64 (p : Int)) ∧ w'.cell? ⟨w.heap.size, 1, none⟩ = some (.int .i64 (q : Int))) (by kernel_rfl) ⟨c0.out, c1.out⟩ (fun hS => ?_)
    refine hd_take 0 (_) rfl rfl (by kernel_rfl) (by kernel_rfl) (by kernel_rfl) (fun _ _ _ h => h) (fun w _ => by go_simp <;> rfl) hS ?_
    refine hd_take 2 (_) rfl rfl (by kernel_rfl) (by kernel_rfl) (by kernel_rfl) (fun _ _ _ h => h) (fun w _ => by go_simp <;> rfl) hS ?_
    simp only [List.getElem_toArray, List.getElem_cons_succ, List.getElem_cons_zero, Act.put, List.setIfInBounds_toArray, List.set_cons_zero, List.set_cons_succ]
    refine hd_take 1 (.int .i64 (p : Int)) rfl rfl (by kernel_rfl) (by kernel_rfl) (by kernel_rfl) (fun _ _ _ h => h) (fun w hw => by have hx := hw.1; simp [go_sem, hx]) hS ?_
    refine hd_take 3 (.int .i64 (q : Int)) rfl rfl (by kernel_rfl) (by kernel_rfl) (by kernel_rfl) (fun _ _ _ h => h) (fun w hw => by have hx := hw.2; simp [go_sem, hx]) hS ?_
    simp only [List.getElem_toArray, List.getElem_cons_succ, List.getElem_cons_zero, Act.put, List.setIfInBounds_toArray, List.set_cons_zero, List.set_cons_succ]
    refine hd_take 4 (_) rfl rfl (by kernel_rfl) (by kernel_rfl) (by kernel_rfl) (fun _ _ _ h => h) (fun w _ => by go_simp <;> rfl) hS ?_
    refine hd_take 5 (_) rfl rfl (by kernel_rfl) (by kernel_rfl) (by kernel_rfl) (fun _ _ _ h => h) (fun w _ => by go_simp <;> rfl) hS ?_
    simp only [List.getElem_toArray, List.getElem_cons_succ, List.getElem_cons_zero, Act.put, List.setIfInBounds_toArray, List.set_cons_zero, List.set_cons_succ]
    refine wpAnyH_done (by kernel_rfl) (NoPanic.normal ?_) _
    have C2 : W0.drew.cell? ⟨w.heap.size, 2, none⟩ = some (.slice A n c) := c2.out
    have HD := Lib.hid (HB0.out.drew)
    generalize W0.drew = W1 at C2 HD ⊢
    clear hS c0 c1 c2 HB0
    go_wp2_with fail
    have e1 : decide ((p : Int) < 1) = false := decide_eq_false (by omega)
    have e2 : decide ((128 : Int) < (p : Int)) = false := decide_eq_false (by omega)
    have e3 : decide ((q : Int) < 0) = false := decide_eq_false (by omega)
    have e4 : decide (p ≤ q) = false := decide_eq_false (by omega)
    simp only [e1, e2, e3, e4, Bool.or_false]
    clear e1 e2 e3 e4
    go_loop [3, 4, 5] (fun v3 v4 v5 => ∃ s k j : Nat, v3 = .int .i64 (s : Int) ∧ v4 = .int .i64 (k : Int) ∧ v5 = .int .i64 (j : Int) ∧ 1 ≤ k ∧ j < k ∧ s + k ≤ 129 ∧ s + stepsS k j = T) (fun _ v4 _ => (intOf v4).toNat)
    case atStart => exact ⟨0, p, q, rfl, rfl, rfl, hp1, hqp, by omega, by rw [HT.out]; omega⟩
    case round =>
      obtain ⟨s, k, j, rfl, rfl, rfl, hk1, hjk, hsk, hst⟩ := hrel
      by_cases hk2 : 2 ≤ k
      · have hs1 := splitS_pos k
        have hs2 := splitS_lt hk2
        have hkb : (k : Int) ≤ 129 := by omega
        have hsb : (s : Int) ≤ 129 := by omega
        have hgt : (1 : Int) < (k : Int) := by omega
        have HSP : Hid (∀ W, Calls Tryz.prog 113 #[.int .i64 (k : Int)] W fun e w' => e = .returned (.int .i64 ((splitS k : Nat) : Int)) ∧ W = w') := fun W => split_any k W hk2 (by omega)
        by_cases hlt : j < splitS k
        · have HN : Hid (s + 1 + stepsS (splitS k) j = T) := by unfold Hid; rw [← hst, stepsS_low hk2 hlt]; omega
          generalize splitS k = m at *
          have hji : (j : Int) < (m : Int) := by omega
          clear hst
          go_wp2_with (go_at_call 113; refine (HSP.out _).mono ?_; rintro e w1 ⟨rfl, rfl⟩)
          go_round
          case rel => exact ⟨s + 1, m, j, by go_num, rfl, rfl, hs1, hlt, by omega, HN.out⟩
          case measure => simp [intOf]; omega
        · have HN : Hid (s + 1 + stepsS (k - splitS k) (j - splitS k) = T) := by unfold Hid; rw [← hst, stepsS_high hk2 hlt]; omega
          generalize splitS k = m at *
          have hji : ¬ (j : Int) < (m : Int) := by omega
          have hmj : (m : Int) ≤ (j : Int) := by omega
          have hmk : (m : Int) < (k : Int) := by omega
          clear hst
          go_wp2_with (go_at_call 113; refine (HSP.out _).mono ?_; rintro e w1 ⟨rfl, rfl⟩)
          go_round
          case rel => exact ⟨s + 1, k - m, j - m, by go_num, by rw [show ((k - m : Nat) : Int) = (k : Int) - (m : Int) from by omega], by rw [show ((j - m : Nat) : Int) = (j : Int) - (m : Int) from by omega], by omega, by omega, by omega, HN.out⟩
          case measure => simp [intOf]; omega
      · obtain rfl : k = 1 := by omega
        have hs : s = T := by rw [stepsS_one (by omega)] at hst; omega
        subst hs
        clear hst
        by_cases he : n = s
        · subst he
          have HF' : Hid (fitsB (p : Int) (q : Int) n = true) := by unfold Hid; rw [HF.out]; simp
          clear HF HT
          go_wp2_with fail
          go_ret
          exact ⟨by rw [HF'.out]; rfl, HD.out⟩
        · have HF' : Hid (fitsB (p : Int) (q : Int) n = false) := by unfold Hid; rw [HF.out]; simp [he]
          have hei : ((n : Int) == (s : Int)) = false := by rw [beq_eq_false_iff_ne]; omega
          clear HF HT
          go_wp2_with fail
          go_ret
          exact ⟨by rw [HF'.out]; rfl, HD.out⟩

set_option maxHeartbeats 2000000 in
set_option maxRecDepth 100000 in
theorem fitsGrowth_any (a b : Int) (A : Option Addr) (n c : Nat) (w : World) (hn : n ≤ 140737488351232) :
    Calls Tryz.prog 103 #[.agg (prC a b A n c).toArray] w fun e w' => e = .returned (.bool (fitsGB a b n)) ∧ Below w.heap.size w w' := by
  have b0 := alloc_bel w (.cells #[.int .i64 a, .int .i64 b, .slice A n c] 80)
  have hni : (n : Int) ≤ 140737488351232 := by omega
  unfold prC
  rcases (by omega : a < 1 ∨ (1 ≤ a ∧ b < a) ∨ (1 ≤ a ∧ a ≤ b ∧ 128 < b) ∨ (1 ≤ a ∧ a ≤ b ∧ b ≤ 128)) with h | ⟨h1, h2⟩ | ⟨h1, h2, h3⟩ | ⟨h1, h2, h3⟩
  · have HF : Hid (fitsGB a b n = false) := fitsGB_no (by omega)
    go_enter Tryz.func103, Tryz.ntmps103
    go_wp2
    go_ret
    exact ⟨by rw [HF.out]; rfl, b0⟩
  · have HF : Hid (fitsGB a b n = false) := fitsGB_no (by omega)
    go_enter Tryz.func103, Tryz.ntmps103
    go_wp2
    go_ret
    exact ⟨by rw [HF.out]; rfl, b0⟩
  · have HF : Hid (fitsGB a b n = false) := fitsGB_no (by omega)
    go_enter Tryz.func103, Tryz.ntmps103
    go_wp2
    go_ret
    exact ⟨by rw [HF.out]; rfl, b0⟩
  · have HF : Hid (fitsGB a b n = decide (n = partsS b.toNat a.toNat true)) := fitsGB_in ⟨h1, h2, h3⟩
    obtain ⟨q, rfl⟩ : ∃ q : Nat, a = (q : Int) := ⟨a.toNat, by omega⟩
    obtain ⟨p, rfl⟩ : ∃ p : Nat, b = (p : Int) := ⟨b.toNat, by omega⟩
    rw [Int.toNat_natCast, Int.toNat_natCast] at HF
    obtain ⟨T, hT⟩ : ∃ T, partsS p q true = T := ⟨_, rfl⟩
    have HT := Lib.hid hT
    rw [hT] at HF
    clear hT
    have hqp : q ≤ p := by omega
    have hp1 : 1 ≤ q := by omega
    have hp2 : p ≤ 128 := by omega
    have HB0 := Lib.hid b0
    have c0 : Hid ((w.alloc (.cells #[.int .i64 (q : Int), .int .i64 (p : Int), .slice A n c] 80)).cell? ⟨w.heap.size, 0, none⟩ = some (.int .i64 (q : Int))) := (Blk.new w _ _).cell 0
    have c1 : Hid ((w.alloc (.cells #[.int .i64 (q : Int), .int .i64 (p : Int), .slice A n c] 80)).cell? ⟨w.heap.size, 1, none⟩ = some (.int .i64 (p : Int))) := (Blk.new w _ _).cell 1
    have c2 : Hid ((w.alloc (.cells #[.int .i64 (q : Int), .int .i64 (p : Int), .slice A n c] 80)).cell? ⟨w.heap.size, 2, none⟩ = some (.slice A n c)) := (Blk.new w _ _).cell 2
    clear b0
    go_enter Tryz.func103, Tryz.ntmps103
    go_wp2_with fail
    generalize w.alloc (.cells #[.int .i64 (q : Int), .int .i64 (p : Int), .slice A n c] 80) = W0 at HB0 c0 c1 c2 ⊢
    refine wp_region_noPanic ?_
    refine wp_region_held_drew (S := fun w' => w'.cell? ⟨w.heap.size, 0, none⟩ = some (.int .i64 (q : Int)) ∧ w'.cell? ⟨w.heap.size, 1, none⟩ = some (.int .i64 (p : Int))) (by kernel_rfl) ⟨c0.out, c1.out⟩ (fun hS => ?_)
    refine hd_take 0 (_) rfl rfl (by kernel_rfl) (by kernel_rfl) (by kernel_rfl) (fun _ _ _ h => h) (fun w _ => by go_simp <;> rfl) hS ?_
    refine hd_take 2 (_) rfl rfl (by kernel_rfl) (by kernel_rfl) (by kernel_rfl) (fun _ _ _ h => h) (fun w _ => by go_simp <;> rfl) hS ?_
    simp only [List.getElem_toArray, List.getElem_cons_succ, List.getElem_cons_zero, Act.put, List.setIfInBounds_toArray, List.set_cons_zero, List.set_cons_succ]
    refine hd_take 1 (.int .i64 (p : Int)) rfl rfl (by kernel_rfl) (by kernel_rfl) (by kernel_rfl) (fun _ _ _ h => h) (fun w hw => by have hx := hw.2; simp [go_sem, hx]) hS ?_
    refine hd_take 3 (.int .i64 (q : Int)) rfl rfl (by kernel_rfl) (by kernel_rfl) (by kernel_rfl) (fun _ _ _ h => h) (fun w hw => by have hx := hw.1; simp [go_sem, hx]) hS ?_
    simp only [List.getElem_toArray, List.getElem_cons_succ, List.getElem_cons_zero, Act.put, List.setIfInBounds_toArray, List.set_cons_zero, List.set_cons_succ]
    refine hd_take 4 (_) rfl rfl (by kernel_rfl) (by kernel_rfl) (by kernel_rfl) (fun _ _ _ h => h) (fun w _ => by go_simp <;> rfl) hS ?_
    refine hd_take 5 (_) rfl rfl (by kernel_rfl) (by kernel_rfl) (by kernel_rfl) (fun _ _ _ h => h) (fun w _ => by go_simp <;> rfl) hS ?_
    simp only [List.getElem_toArray, List.getElem_cons_succ, List.getElem_cons_zero, Act.put, List.setIfInBounds_toArray, List.set_cons_zero, List.set_cons_succ]
    refine wpAnyH_done (by kernel_rfl) (NoPanic.normal ?_) _
    have C2 : W0.drew.cell? ⟨w.heap.size, 2, none⟩ = some (.slice A n c) := c2.out
    have HD := Lib.hid (HB0.out.drew)
    generalize W0.drew = W1 at C2 HD ⊢
    clear hS c0 c1 c2 HB0
    go_wp2_with fail
    have e1 : decide ((q : Int) < 1) = false := decide_eq_false (by omega)
    have e2 : decide ((128 : Int) < (p : Int)) = false := decide_eq_false (by omega)
    have e4 : decide (p < q) = false := decide_eq_false (by omega)
    simp only [e1, e2, e4, Bool.or_false]
    clear e1 e2 e4
    go_loop [3, 4, 5, 6] (fun v3 v4 v5 v6 => ∃ (s z k j : Nat) (wh : Bool), v3 = .int .i64 (s : Int) ∧ v4 = .int .i64 (z : Int) ∧ v5 = .int .i64 (k : Int) ∧ v6 = .int .i64 (j : Int) ∧ 1 ≤ j ∧ j ≤ k ∧ s + k ≤ 129 ∧ z = (if wh then 0 else 1) ∧ s + partsS k j wh = T) (fun _ _ v5 _ => (intOf v5).toNat)
    case atStart => exact ⟨0, 0, p, q, true, rfl, rfl, rfl, rfl, hp1, hqp, by omega, rfl, by rw [HT.out]; omega⟩
    case round =>
      obtain ⟨s, z, k, j, wh, rfl, rfl, rfl, rfl, hj1, hjk, hsk, hz, hst⟩ := hrel
      have HZ := Lib.hid hz
      have hz1 : z ≤ 1 := by rw [hz]; split <;> omega
      clear hz
      by_cases hk2 : j < k
      · have hs1 := splitS_pos k
        have hs2 := splitS_lt (n := k) (by omega)
        have hkb : (k : Int) ≤ 129 := by omega
        have hsb : (s : Int) ≤ 129 := by omega
        have hgt : (j : Int) < (k : Int) := by omega
        have HSP : Hid (∀ W, Calls Tryz.prog 113 #[.int .i64 (k : Int)] W fun e w' => e = .returned (.int .i64 ((splitS k : Nat) : Int)) ∧ W = w') := fun W => split_any k W (by omega) (by omega)
        by_cases hlt : j ≤ splitS k
        · have HN : Hid (s + 1 + partsS (splitS k) j wh = T) := by unfold Hid; rw [← hst, partsS_low _ (by omega) (by omega) hlt]; omega
          generalize splitS k = m at *
          have hji : (j : Int) ≤ (m : Int) := by omega
          clear hst
          go_wp2_with (go_at_call 113; refine (HSP.out _).mono ?_; rintro e w1 ⟨rfl, rfl⟩)
          go_round
          case rel => exact ⟨s + 1, z, m, j, wh, by go_num, rfl, rfl, rfl, hj1, hlt, by omega, HZ.out, HN.out⟩
          case measure => simp [intOf]; omega
        · have HN : Hid (s + 1 + partsS (k - splitS k) (j - splitS k) false = T) := by unfold Hid; rw [← hst, partsS_high _ (by omega) (by omega) hlt]; omega
          generalize splitS k = m at *
          have hji : ¬ (j : Int) ≤ (m : Int) := by omega
          have hmj : (m : Int) < (j : Int) := by omega
          have hmk : (m : Int) < (k : Int) := by omega
          clear hst
          go_wp2_with (go_at_call 113; refine (HSP.out _).mono ?_; rintro e w1 ⟨rfl, rfl⟩)
          go_round
          case rel => exact ⟨s + 1, 1, k - m, j - m, false, by go_num, rfl, by rw [show ((k - m : Nat) : Int) = (k : Int) - (m : Int) from by omega], by rw [show ((j - m : Nat) : Int) = (j : Int) - (m : Int) from by omega], by omega, by omega, by omega, rfl, HN.out⟩
          case measure => simp [intOf]; omega
      · obtain rfl : j = k := by omega
        have hs : s + z = T := by rw [HZ.out, ← hst, partsS_end]
        subst hs
        have hge : ¬ (j : Int) < (j : Int) := by omega
        have hzi : (z : Int) ≤ 1 := by omega
        have hsb : (s : Int) ≤ 129 := by omega
        clear hst
        by_cases he : n = s + z
        · have HF' : Hid (fitsGB (q : Int) (p : Int) n = true) := by unfold Hid; rw [HF.out]; simp [he]
          have hei : (n : Int) = (s : Int) + (z : Int) := by omega
          clear HF HT HZ
          subst he
          go_wp2_with fail
          go_ret
          exact ⟨by rw [HF'.out]; rfl, HD.out⟩
        · have HF' : Hid (fitsGB (q : Int) (p : Int) n = false) := by unfold Hid; rw [HF.out]; simp [he]
          have hei : ((n : Int) == (s : Int) + (z : Int)) = false := by rw [beq_eq_false_iff_ne]; omega
          clear HF HT HZ
          go_wp2_with fail
          go_ret
          exact ⟨by rw [HF'.out]; rfl, HD.out⟩
end Go.Proofs.YtinpiodfpnbllaaGreatDoor

/- Texts: the program's; texts that were returned. -/
namespace Go.Proofs.YtinpiodfpnbllaaGreatDoor
open Go.RowKit
set_option linter.unusedVariables false
set_option linter.unusedSimpArgs false

/-- Texts that are returned, with an error. -/
def TxEnd (ts : List (List UInt8)) (e0 : Int) (e : Ending) (w' : World) : Prop := ∃ A c rs, e = .returned (.tuple #[.slice A rs.length c, .int .i64 e0]) ∧ rs.map BRow.l = ts ∧ RR w' A c rs
def textsR (ks : List (List UInt8)) : List (List UInt8) × Int := if 128 < ks.length then ([], 4) else (textsS ks, 0)
theorem RR.nil (w : World) : RR w none 0 [] := ⟨Rd.nil w 1, by simp⟩
theorem TX.rr {B : Nat} {w : World} {g : Nat} {ts : List (List UInt8)} (h : TX B w g ts) (hl : ts.length ≤ 100000) : ∃ A c rs, w.cell? ⟨g, 0, none⟩ = some (.slice A rs.length c) ∧ rs.map BRow.l = ts ∧ RR w A c rs := by
  obtain ⟨A, c, rs, h1, h2, h3, h4, h5, h6⟩ := h
  have hrl : rs.length ≤ 100000 := by rw [← List.length_map (f := BRow.l), h1]; exact hl
  refine ⟨A, c, rs, h3.cell 0, h1, h4.rr (by omega) fun r hr => (h5 r hr).br ?_⟩
  have := h6 r.l (by rw [← h1]; exact List.mem_map.2 ⟨r, hr, rfl⟩)
  omega
theorem TX.new (w : World) : TX w.heap.size (w.alloc (.cells #[.slice none 0 0] 150)) w.heap.size [] :=
  ⟨none, 0, [], rfl, Nat.le_refl _, Blk.new w _ _, RO.nil _ _, by simp, by simp⟩

set_option maxHeartbeats 1000000 in
set_option maxRecDepth 100000 in
theorem Texts_any (ks : List (List UInt8)) (A : Option Addr) (c : Nat) (w : World) {n : Nat} (hn : ks.length = n) (h : KR w A c ks) :
    Calls Tryz.prog 40 #[.slice A n c] w fun e w' => TxEnd (textsR ks).1 (textsR ks).2 e w' ∧ Below w.heap.size w w' := by
  have hnl : (n : Int) ≤ 140737488351232 := by have := h.len; omega
  rcases (by omega : 128 < n ∨ n = 0 ∨ (1 ≤ n ∧ n ≤ 128)) with hw | rfl | ⟨h1, hw⟩
  · have HS : Hid (textsR ks = ([], 4)) := by unfold Hid textsR; rw [if_pos (by omega)]
    have hbi : (128 : Int) < n := by omega
    clear hn h hw
    go_enter Tryz.func40, Tryz.ntmps40
    go_wp2
    go_ret2
    rw [HS.out]
    exact ⟨⟨none, 0, [], rfl, rfl, RR.nil _⟩, Below.refl _ _⟩
  · have HS : Hid (textsR ks = ([[]], 0)) := by unfold Hid textsR; rw [if_neg (by omega), List.eq_nil_of_length_eq_zero hn, textsS_nil]
    clear hn h hnl
    go_enter Tryz.func40, Tryz.ntmps40
    go_wp2
    go_ret2
    rw [HS.out]
    refine ⟨⟨some ⟨w.heap.size, 0, none⟩, 1, [⟨none, 0, []⟩], rfl, rfl, ⟨⟨⟨rfl, Nat.le_refl _, by omega, by simp⟩, fun _ => ⟨w.heap.size, 0, rfl, by simp, fun j v hv => ?_⟩⟩, fun r hr => by rw [List.mem_singleton.1 hr]; exact BR.nil _⟩⟩, alloc_bel _ _⟩
    rw [Nat.zero_add, (Blk.new w _ _).cell j]
    simpa [BRow.v] using hv
  · have HS : Hid (textsR ks = (textsS ks, 0)) := by unfold Hid textsR; rw [if_neg (by omega)]
    have hwi : (n : Int) ≤ 128 := by omega
    have h1i : (1 : Int) ≤ n := by omega
    have hne : ¬ (n : Int) = 0 := by omega
    have hlt : ¬ (128 : Int) < n := by omega
    have hle := textsS_le n ks hn h1
    have b0 := alloc_bel w (.cells #[.slice none 0 0] 150)
    have HF := Lib.hid (textFold_any w w.heap.size n ks A c [] (w.alloc (.cells #[.slice none 0 0] 150)) hn h1 (by omega) h b0 (TX.new w) (by simp; omega))
    generalize textsS ks = ts at HS HF hle
    generalize rootS ks = rt at HF
    rw [List.nil_append] at HF
    have HLE : Hid (ts.length ≤ 100000) := by unfold Hid; omega
    clear hn h hw hle
    go_enter Tryz.func40, Tryz.ntmps40
    go_wp2_with (go_at_call 93; refine (HF.out).mono ?_; rintro e w1 ⟨rfl, ht1, hk1, hb1⟩; obtain ⟨A1, c1, rs, hc1, hrs, hrr⟩ := ht1.rr HLE.out; have HRS := Lib.hid hrs; have HRR := Lib.hid hrr; have B1 := Lib.hid (b0.trans hb1); generalize hq : rs.length = q at hc1; have HQ := Lib.hid hq; clear hrs hrr ht1 hk1 hb1 hq)
    go_ret2
    rw [HS.out]
    exact ⟨⟨A1, c1, rs, by rw [HQ.out]; rfl, HRS.out, HRR.out⟩, B1.out⟩
end Go.Proofs.YtinpiodfpnbllaaGreatDoor

/- What a proof gives: the program's Verify and PathTexts. -/
namespace Go.Proofs.YtinpiodfpnbllaaGreatDoor
open Go.RowKit
set_option linter.unusedVariables false
set_option linter.unusedSimpArgs false
attribute [local go_sem] run_storeCells_key run_storeCells_new equalIn_keys

/-- A key and texts that are returned. -/
def GvEnd (r : List UInt8) (ts : List (List UInt8)) (e : Ending) (w' : World) : Prop := ∃ A c rs, e = .returned (.tuple #[.agg (cellsB r).toArray, .slice A rs.length c]) ∧ rs.map BRow.l = ts ∧ RR w' A c rs
def verS (root leaf : List UInt8) (a b : Int) (P : List (List UInt8)) : Bool × Int := if fitsB a b P.length = true then ((climbS leaf a.toNat b.toNat P).1 == root, 0) else (false, 8)
def ptS (leaf : List UInt8) (a b : Int) (P : List (List UInt8)) : List (List UInt8) × Int := if fitsB a b P.length = true then ((climbS leaf a.toNat b.toNat P).2, 0) else ([], 8)

set_option maxHeartbeats 2000000 in
set_option maxRecDepth 100000 in
theorem given_any (leaf : List UInt8) (n i : Nat) (P : List (List UInt8)) (A : Option Addr) (c : Nat) (w : World) {m : Nat} (hm : P.length = m) (hl : leaf.length = 16) (h1 : 1 ≤ n) (h2 : n ≤ 128) (hi : i < n) (hp : P.length = stepsS n i) (h : KR w A c P) :
    Calls Tryz.prog 99 #[.agg (cellsB leaf).toArray, .agg #[.int .i64 (n : Int), .int .i64 (i : Int), .slice A m c]] w fun e w' => GvEnd (climbS leaf n i P).1 (climbS leaf n i P).2 e w' ∧ Below w.heap.size w w' := by
  have HZ := Lib.hid zero16
  have HK := Lib.hid hl
  have b0 := alloc3_bel w (.cells (cellsB leaf).toArray 24) (.cells #[.int .i64 (n : Int), .int .i64 (i : Int), .slice A m c] 27) (.cells (cellsB zeroK).toArray 24)
  have L0 := Lib.hid (blk_a0 w (cellsB leaf).toArray 24 (.cells #[.int .i64 (n : Int), .int .i64 (i : Int), .slice A m c] 27) (.cells (cellsB zeroK).toArray 24))
  have R0 := Lib.hid (blk_a2 w (.cells (cellsB leaf).toArray 24) (.cells #[.int .i64 (n : Int), .int .i64 (i : Int), .slice A m c] 27) (cellsB zeroK).toArray 24)
  obtain ⟨W3, hW3⟩ : ∃ W, W = ((w.alloc (.cells (cellsB leaf).toArray 24)).alloc (.cells #[.int .i64 (n : Int), .int .i64 (i : Int), .slice A m c] 27)).alloc (.cells (cellsB zeroK).toArray 24) := ⟨_, rfl⟩
  have hsz : W3.heap.size = w.heap.size + 1 + 1 + 1 := by rw [hW3]; simp
  have ht0 := TX.new W3
  have b3 := alloc_bel W3 (.cells #[.slice none 0 0] 150)
  have hle := climbS_le leaf n i P h1
  have hrl := climbS_length leaf n i P
  have HC := climb_any W3 W3.heap.size leaf hl n i P A c [] (W3.alloc (.cells #[.slice none 0 0] 150)) h1 (by omega) hi hp (by rw [hW3]; exact h.below b0) b3 ht0 (by simp; omega)
  rw [hm, List.nil_append] at HC
  have HSZ := Lib.hid hsz
  have HC' := Lib.hid HC
  have HW3 := Lib.hid hW3
  rw [← hW3] at b0 L0 R0
  generalize climbS leaf n i P = r at HC' hle hrl HC ⊢
  obtain ⟨q, x⟩ := r
  dsimp only at HC' hle hrl HC ⊢
  have HRL := Lib.hid hrl
  have hdc : (cellsB q).length = 16 := by rw [cellsB_length, hrl]
  have hall := all16 q
  have HLE : Hid (x.length ≤ 100000) := by unfold Hid; omega
  clear hm hl h1 h2 hi hp h hsz HC ht0 hW3 hle hrl
  go_enter Tryz.func99, Tryz.ntmps99
  go_wp2_with (first
    | (refine wpList_load_row rfl 24 (.tmp 2) rfl w.heap.size rfl 24 (cellsB leaf).toArray (0, 0) _ (by rw [HZ.out, ← HW3.out]; exact (L0.out.alloc _)) under_key rfl (cellsB_size _ HK.out) ?_)
    | (go_at_call 152; rw [HZ.out, ← HW3.out, ← HSZ.out]; refine HC'.out.mono ?_; rintro e w1 ⟨rfl, ht1, hk1, hb1⟩; obtain ⟨A1, c1, rs, hc1, hrs, hrr⟩ := ht1.rr HLE.out; have tlt := ht1.lt; have B1 := Lib.hid (b3.trans hb1); have HTX := Lib.hid ht1; generalize hq : rs.length = k1 at hc1; have HQ := Lib.hid hq; have HC1 := Lib.hid hc1; clear hc1 hq hrs hrr ht1 hk1 hb1))
  have BA := alloc_bel w1 (.cells (cellsB q).toArray 24)
  have Q0 := Blk.new w1 24 (cellsB q).toArray
  have R1 : Blk (w1.alloc (.cells (cellsB q).toArray 24)) (w.heap.size + 1 + 1) 24 (cellsB zeroK).toArray := (R0.out.below' B1.out).alloc _
  have C1 : (w1.alloc (.cells (cellsB q).toArray 24)).cell? ⟨W3.heap.size, 0, none⟩ = some (.slice A1 k1 c1) := (BA.cell (p := ⟨W3.heap.size, 0, none⟩) tlt).trans HC1.out
  have RA := HTX.out.below BA
  have hne : w1.heap.size ≠ w.heap.size + 1 + 1 := by have := HSZ.out; omega
  have hne2 : W3.heap.size ≠ w.heap.size + 1 + 1 := by have := HSZ.out; omega
  rw [HSZ.out] at C1 hne2
  have BW : Below w.heap.size w (w1.alloc (.cells (cellsB q).toArray 24)) := bel_on (bel_on b0 B1.out) BA
  obtain ⟨W4, hW4⟩ : ∃ W, W = w1.alloc (.cells (cellsB q).toArray 24) := ⟨_, rfl⟩
  rw [← hW4] at Q0 R1 C1 RA BW ⊢
  clear hW4 BA HC1
  refine wp_region_noPanic ?_
  refine wp_region_held_drew (S := fun w' => w'.rangeAt w1.heap.size 0 (cellsB q) ∧ w'.cell? ⟨w.heap.size + 1 + 1 + 1, 0, none⟩ = some (.slice A1 k1 c1)) (by kernel_rfl) ⟨Q0.drew.range, C1⟩ (fun hS => ?_)
  refine hd_load 0 w1.heap.size 0 (cellsB q) _ _ rfl rfl rfl (by kernel_rfl) (by kernel_rfl) (by kernel_rfl) (fun _ _ _ h => h) rfl (fun w hw => hw.1) under_key rfl (key_info HRL.out) hS ?_
  refine hd_take 1 (.slice A1 k1 c1) rfl rfl (by kernel_rfl) (by kernel_rfl) (by kernel_rfl) (fun _ _ _ h => h) (fun w hw => by have hx := hw.2; simp [go_sem, HSZ.out, hx]) hS ?_
  simp only [List.getElem_toArray, List.getElem_cons_succ, List.getElem_cons_zero, Act.put, List.setIfInBounds_toArray, List.set_cons_zero, List.set_cons_succ]
  have hS7 := And.intro (range_setRow hS.1 (g' := w.heap.size + 1 + 1) hne (cellsB q).toArray) ((World.cell?_of_block (a := ⟨w.heap.size + 1 + 1 + 1, 0, none⟩) (setRow_other W4.drew (w.heap.size + 1 + 1) (w.heap.size + 1 + 1 + 1) (cellsB q).toArray (by omega))).trans hS.2)
  refine hd_store 2 (w.heap.size + 1 + 1) (cellsB q).toArray _ _ _ rfl rfl rfl (by kernel_rfl) rfl rfl R1.drew (cellsB_size _ HRL.out) (by rw [List.size_toArray, List.size_toArray, cellsB_length, cellsB_length, HRL.out]; rfl) (all_oneCell_toArray (cells_one q)) hS7 ?_
  refine hd_take 3 (_) rfl rfl (by kernel_rfl) (by kernel_rfl) (by kernel_rfl) (fun _ _ _ h => h) (fun w _ => by go_simp <;> rfl) hS7 ?_
  simp only [List.getElem_toArray, List.getElem_cons_succ, List.getElem_cons_zero, Act.put, List.setIfInBounds_toArray, List.set_cons_zero, List.set_cons_succ]
  refine wpAnyH_done (by kernel_rfl) (NoPanic.normal ?_) _
  have HRF := Lib.hid (R1.drew.setRow (cellsB q).toArray)
  have HBF := Lib.hid (below_setRow BW.drew (g := w.heap.size + 1 + 1) (by omega) (cellsB q).toArray)
  obtain ⟨A5, c5, rs5, hc5, hrs5, hrr5⟩ := ((RA.below (Below.refl _ _).drew).row R1.drew (cellsB q).toArray).rr HLE.out
  rw [HSZ.out, hS7.2] at hc5
  injection hc5 with hc5
  injection hc5 with e1 e2 e3
  subst e1 e3
  have HQ5 := Lib.hid e2
  have HRS5 := Lib.hid hrs5
  have HRR5 := Lib.hid hrr5
  clear hS hS7 Q0 R1 C1 RA BW e2 hrs5 hrr5
  go_wp2_with fail
  refine bodyPost_ret (v := .tuple #[.agg (cellsB q).toArray, .slice A1 k1 c1]) ?_ rfl ⟨⟨A1, c1, rs5, by rw [HQ5.out], HRS5.out, HRR5.out⟩, HBF.out⟩
  rw [results_cell_tmp Tryz.results99]
  simp [asAddr, Result.andThen, run_loadVar_row _ (w.heap.size + 1 + 1) _ _ _ (0, 0) _ HRF.out under_key rfl (cellsB_size _ HRL.out)]

set_option maxHeartbeats 2000000 in
set_option maxRecDepth 100000 in
theorem gives_any (root leaf : List UInt8) (n i : Nat) (P : List (List UInt8)) (A : Option Addr) (c : Nat) (w : World) {m : Nat} (hm : P.length = m) (hr : root.length = 16) (hl : leaf.length = 16) (h1 : 1 ≤ n) (h2 : n ≤ 128) (hi : i < n) (hp : P.length = stepsS n i) (h : KR w A c P) :
    Calls Tryz.prog 80 #[.agg (cellsB root).toArray, .agg (cellsB leaf).toArray, .agg #[.int .i64 (n : Int), .int .i64 (i : Int), .slice A m c]] w fun e w' => e = .returned (.bool ((climbS leaf n i P).1 == root)) ∧ Below w.heap.size w w' := by
  have HZ := Lib.hid zero16
  have HK := Lib.hid hl
  have HR := Lib.hid hr
  have b0 := alloc3_bel w (.cells (cellsB root).toArray 24) (.cells (cellsB leaf).toArray 24) (.cells #[.int .i64 (n : Int), .int .i64 (i : Int), .slice A m c] 27)
  have R0 := Lib.hid (blk_a0 w (cellsB root).toArray 24 (.cells (cellsB leaf).toArray 24) (.cells #[.int .i64 (n : Int), .int .i64 (i : Int), .slice A m c] 27))
  have L0 := Lib.hid (blk_a1 w (.cells (cellsB root).toArray 24) (cellsB leaf).toArray 24 (.cells #[.int .i64 (n : Int), .int .i64 (i : Int), .slice A m c] 27))
  have HG : Hid (∀ W, Below w.heap.size w W → Calls Tryz.prog 99 #[.agg (cellsB leaf).toArray, .agg #[.int .i64 (n : Int), .int .i64 (i : Int), .slice A m c]] W fun e w' => GvEnd (climbS leaf n i P).1 (climbS leaf n i P).2 e w' ∧ Below W.heap.size W w') := fun W hW => given_any leaf n i P A c W hm hl h1 h2 hi hp (h.below hW)
  have hrl := climbS_length leaf n i P
  generalize climbS leaf n i P = r at HG hrl ⊢
  obtain ⟨q, x⟩ := r
  unfold GvEnd at HG
  dsimp only at HG hrl ⊢
  have HRL := Lib.hid hrl
  have hdc : (cellsB q).length = 16 := by rw [cellsB_length, hrl]
  have hall := all16 q
  clear hm hr hl h1 h2 hi hp h hrl
  go_enter Tryz.func80, Tryz.ntmps80
  go_wp2_with (first
    | (refine wpList_load_row rfl 24 (.tmp 4) rfl (w.heap.size + 1) rfl 24 (cellsB leaf).toArray (0, 0) _ L0.out under_key rfl (cellsB_size _ HK.out) ?_)
    | (go_at_call 99; refine (HG.out _ b0).mono ?_; rintro e w1 ⟨⟨A1, c1, rs, rfl, _, _⟩, hb1⟩; have B1 := Lib.hid (bel_on b0 hb1); have R1 := Lib.hid ((R0.out.below' hb1).alloc (.cells (cellsB q).toArray 24)); have Q1 := Lib.hid (Blk.new w1 24 (cellsB q).toArray); clear hb1)
    | (refine wpList_load_row rfl 24 (.tmp 7) rfl w1.heap.size rfl 24 (cellsB q).toArray (0, 0) _ Q1.out under_key rfl (cellsB_size _ HRL.out) ?_)
    | (refine wpList_load_row rfl 24 (.tmp 3) rfl w.heap.size rfl 24 (cellsB root).toArray (0, 0) _ R1.out under_key rfl (cellsB_size _ HR.out) ?_))
  go_ret
  exact ⟨rfl, bel_on B1.out (alloc_bel w1 _)⟩

set_option maxHeartbeats 2000000 in
set_option maxRecDepth 100000 in
theorem Verify_any (root leaf : List UInt8) (a b : Int) (P : List (List UInt8)) (A : Option Addr) (c : Nat) (w : World) {m : Nat} (hm : P.length = m) (hr : root.length = 16) (hl : leaf.length = 16) (h : KR w A c P) :
    Calls Tryz.prog 28 #[.agg (cellsB root).toArray, .agg (cellsB leaf).toArray, .agg #[.int .i64 a, .int .i64 b, .slice A m c]] w fun e w' => e = .returned (.tuple #[.bool (verS root leaf a b P).1, .int .i64 (verS root leaf a b P).2]) ∧ Below w.heap.size w w' := by
  have HK := Lib.hid hl
  have HR := Lib.hid hr
  have b0 := alloc3_bel w (.cells (cellsB root).toArray 24) (.cells (cellsB leaf).toArray 24) (.cells #[.int .i64 a, .int .i64 b, .slice A m c] 27)
  have R0 := Lib.hid (blk_a0 w (cellsB root).toArray 24 (.cells (cellsB leaf).toArray 24) (.cells #[.int .i64 a, .int .i64 b, .slice A m c] 27))
  have L0 := Lib.hid (blk_a1 w (.cells (cellsB root).toArray 24) (cellsB leaf).toArray 24 (.cells #[.int .i64 a, .int .i64 b, .slice A m c] 27))
  have P0 := Lib.hid (blk_a2 w (.cells (cellsB root).toArray 24) (.cells (cellsB leaf).toArray 24) #[.int .i64 a, .int .i64 b, .slice A m c] 27)
  have hml := h.len
  have HF : Hid (∀ W, Calls Tryz.prog 73 #[.agg #[.int .i64 a, .int .i64 b, .slice A m c]] W fun e w' => e = .returned (.bool (fitsB a b m)) ∧ Below W.heap.size W w') := fun W => fits_any a b A m c W (by omega)
  cases hf : fitsB a b m with
  | false =>
    have HS : Hid (verS root leaf a b P = (false, 8)) := by unfold Hid verS; rw [hm, hf]; rfl
    rw [hf] at HF
    clear hf hm hr hl h hml
    go_enter Tryz.func28, Tryz.ntmps28
    go_wp2_with (go_at_call 73; refine (HF.out _).mono ?_; rintro e w1 ⟨rfl, hb1⟩; have B1 := Lib.hid (bel_on b0 hb1); clear hb1)
    go_ret2
    rw [HS.out]
    exact ⟨rfl, B1.out⟩
  | true =>
    have HS : Hid (verS root leaf a b P = ((climbS leaf a.toNat b.toNat P).1 == root, 0)) := by unfold Hid verS; rw [hm, hf]; rfl
    rw [hf] at HF
    obtain ⟨⟨g1, g2, g3, g4⟩, g5⟩ := fitsB_iff.1 hf
    have HG : Hid (∀ W, Below w.heap.size w W → Calls Tryz.prog 80 #[.agg (cellsB root).toArray, .agg (cellsB leaf).toArray, .agg #[.int .i64 a, .int .i64 b, .slice A m c]] W fun e w' => e = .returned (.bool ((climbS leaf a.toNat b.toNat P).1 == root)) ∧ Below W.heap.size W w') := fun W hW => by
      have := gives_any root leaf a.toNat b.toNat P A c W hm hr hl (by omega) (by omega) (by omega) (by rw [hm]; exact g5) (h.below hW)
      rwa [Int.toNat_of_nonneg (by omega), Int.toNat_of_nonneg (by omega)] at this
    generalize ((climbS leaf a.toNat b.toNat P).1 == root) = v at HS HG
    clear hf hm hr hl h hml g1 g2 g3 g4 g5
    go_enter Tryz.func28, Tryz.ntmps28
    go_wp2_with (first
      | (go_at_call 73; refine (HF.out _).mono ?_; rintro e w1 ⟨rfl, hb1⟩; have B1 := bel_on b0 hb1; have R1 := Lib.hid (R0.out.below' hb1); have L1 := Lib.hid (L0.out.below' hb1); have P1 := P0.out.below' hb1; have p0 : w1.cell? ⟨w.heap.size + 1 + 1, 0, none⟩ = some (.int .i64 a) := P1.cell 0; have p1 : w1.cell? ⟨w.heap.size + 1 + 1, 1, none⟩ = some (.int .i64 b) := P1.cell 1; have p2 : w1.cell? ⟨w.heap.size + 1 + 1, 2, none⟩ = some (.slice A m c) := P1.cell 2; clear P1 hb1)
      | (refine wpList_load_row rfl 24 (.tmp 3) rfl w.heap.size rfl 24 (cellsB root).toArray (0, 0) _ R1.out under_key rfl (cellsB_size _ HR.out) ?_)
      | (refine wpList_load_row rfl 24 (.tmp 4) rfl (w.heap.size + 1) rfl 24 (cellsB leaf).toArray (0, 0) _ L1.out under_key rfl (cellsB_size _ HK.out) ?_)
      | (go_at_call 80; refine (HG.out _ B1).mono ?_; rintro e w2 ⟨rfl, hb2⟩; have B2 := Lib.hid (bel_on B1 hb2); clear hb2))
    go_ret2
    rw [HS.out]
    exact ⟨rfl, B2.out⟩

set_option maxHeartbeats 2000000 in
set_option maxRecDepth 100000 in
theorem PathTexts_any (leaf : List UInt8) (a b : Int) (P : List (List UInt8)) (A : Option Addr) (c : Nat) (w : World) {m : Nat} (hm : P.length = m) (hl : leaf.length = 16) (h : KR w A c P) :
    Calls Tryz.prog 41 #[.agg (cellsB leaf).toArray, .agg #[.int .i64 a, .int .i64 b, .slice A m c]] w fun e w' => TxEnd (ptS leaf a b P).1 (ptS leaf a b P).2 e w' ∧ Below w.heap.size w w' := by
  have HK := Lib.hid hl
  have b0 := alloc2_bel w (.cells (cellsB leaf).toArray 24) (.cells #[.int .i64 a, .int .i64 b, .slice A m c] 27)
  have L0 := Lib.hid (blk_b0 w (cellsB leaf).toArray 24 (.cells #[.int .i64 a, .int .i64 b, .slice A m c] 27))
  have P0 := Lib.hid (blk_b1 w (.cells (cellsB leaf).toArray 24) #[.int .i64 a, .int .i64 b, .slice A m c] 27)
  have hml := h.len
  have HF : Hid (∀ W, Calls Tryz.prog 73 #[.agg #[.int .i64 a, .int .i64 b, .slice A m c]] W fun e w' => e = .returned (.bool (fitsB a b m)) ∧ Below W.heap.size W w') := fun W => fits_any a b A m c W (by omega)
  cases hf : fitsB a b m with
  | false =>
    have HS : Hid (ptS leaf a b P = ([], 8)) := by unfold Hid ptS; rw [hm, hf]; rfl
    rw [hf] at HF
    clear hf hm hl h hml
    go_enter Tryz.func41, Tryz.ntmps41
    go_wp2_with (go_at_call 73; refine (HF.out _).mono ?_; rintro e w1 ⟨rfl, hb1⟩; have B1 := Lib.hid (bel_on b0 hb1); clear hb1)
    go_ret2
    rw [HS.out]
    exact ⟨⟨none, 0, [], rfl, rfl, RR.nil _⟩, B1.out⟩
  | true =>
    have HS : Hid (ptS leaf a b P = ((climbS leaf a.toNat b.toNat P).2, 0)) := by unfold Hid ptS; rw [hm, hf]; rfl
    rw [hf] at HF
    obtain ⟨⟨g1, g2, g3, g4⟩, g5⟩ := fitsB_iff.1 hf
    have HG : Hid (∀ W, Below w.heap.size w W → Calls Tryz.prog 99 #[.agg (cellsB leaf).toArray, .agg #[.int .i64 a, .int .i64 b, .slice A m c]] W fun e w' => GvEnd (climbS leaf a.toNat b.toNat P).1 (climbS leaf a.toNat b.toNat P).2 e w' ∧ Below W.heap.size W w') := fun W hW => by
      have := given_any leaf a.toNat b.toNat P A c W hm hl (by omega) (by omega) (by omega) (by rw [hm]; exact g5) (h.below hW)
      rwa [Int.toNat_of_nonneg (by omega), Int.toNat_of_nonneg (by omega)] at this
    have hrl := climbS_length leaf a.toNat b.toNat P
    generalize climbS leaf a.toNat b.toNat P = r at HS HG hrl
    obtain ⟨q, x⟩ := r
    unfold GvEnd at HG
    dsimp only at HS HG hrl
    have hdc : (cellsB q).length = 16 := by rw [cellsB_length, hrl]
    have hall := all16 q
    clear hf hm hl h hml g1 g2 g3 g4 g5 hrl
    go_enter Tryz.func41, Tryz.ntmps41
    go_wp2_with (first
      | (go_at_call 73; refine (HF.out _).mono ?_; rintro e w1 ⟨rfl, hb1⟩; have B1 := bel_on b0 hb1; have L1 := Lib.hid (L0.out.below' hb1); have P1 := P0.out.below' hb1; have p0 : w1.cell? ⟨w.heap.size + 1, 0, none⟩ = some (.int .i64 a) := P1.cell 0; have p1 : w1.cell? ⟨w.heap.size + 1, 1, none⟩ = some (.int .i64 b) := P1.cell 1; have p2 : w1.cell? ⟨w.heap.size + 1, 2, none⟩ = some (.slice A m c) := P1.cell 2; clear P1 hb1)
      | (refine wpList_load_row rfl 24 (.tmp 2) rfl w.heap.size rfl 24 (cellsB leaf).toArray (0, 0) _ L1.out under_key rfl (cellsB_size _ HK.out) ?_)
      | (go_at_call 99; refine (HG.out _ B1).mono ?_; rintro e w2 ⟨⟨A2, c2, rs, rfl, hrs, hrr⟩, hb2⟩; have B2 := Lib.hid (bel_on B1 hb2); have HRS := Lib.hid hrs; have HRR := Lib.hid hrr; generalize hq : rs.length = k; have HQ := Lib.hid hq; clear hb2 hrs hrr hq))
    go_ret2
    rw [HS.out]
    exact ⟨⟨A2, c2, rs, by rw [HQ.out]; rfl, HRS.out, HRR.out.on (alloc_bel _ _)⟩, bel_on B2.out (alloc_bel _ _)⟩
end Go.Proofs.YtinpiodfpnbllaaGreatDoor

/- When a proof of absence is accepted, in plain words. -/
namespace Go.Proofs.YtinpiodfpnbllaaGreatDoor
set_option linter.unusedVariables false

def nearB (lo hi : Ent) (u a b a2 b2 : Int) : Bool := decide (lo.1 < u) && (decide (u < hi.1) && (decide (a = a2) && decide (b + 1 = b2)))
def okV (lo hi : Ent) (a b : Int) (n : Nat) (a2 b2 : Int) (n2 : Nat) : Bool := isE lo && (isE hi && (fitsB a b n && fitsB a2 b2 n2))
/-- Whether a proof of absence is accepted, or the error. -/
def voS (root : List UInt8) (u : Int) (lo hi : Ent) (a b : Int) (P : List (List UInt8)) (a2 b2 : Int) (R : List (List UInt8)) : Bool × Int :=
  if u < 0 ∨ 64 ≤ u then (false, 2) else if okV lo hi a b P.length a2 b2 R.length = false then (false, 8) else (nearB lo hi u a b a2 b2 && (((climbS (leafE lo) a.toNat b.toNat P).1 == root) && ((climbS (leafE hi) a2.toNat b2.toNat R).1 == root)), 0)
theorem okV_iff {lo hi : Ent} {a b : Int} {n : Nat} {a2 b2 : Int} {n2 : Nat} : okV lo hi a b n a2 b2 n2 = true ↔ isE lo = true ∧ isE hi = true ∧ fitsB a b n = true ∧ fitsB a2 b2 n2 = true := by simp [okV]
theorem okV_b {lo hi : Ent} {a b : Int} {n : Nat} {a2 b2 : Int} {n2 : Nat} (h : okV lo hi a b n a2 b2 n2 = true) : 0 ≤ b ∧ b < 128 ∧ b2 < 128 := by
  obtain ⟨_, _, x2, x3⟩ := okV_iff.1 h
  obtain ⟨⟨p1, p2, p3, p4⟩, _⟩ := fitsB_iff.1 x2
  obtain ⟨⟨p6, p7, p8, p9⟩, _⟩ := fitsB_iff.1 x3
  exact ⟨by omega, by omega, by omega⟩
theorem nearB_iff {lo hi : Ent} {u a b a2 b2 : Int} : nearB lo hi u a b a2 b2 = true ↔ lo.1 < u ∧ u < hi.1 ∧ a = a2 ∧ b + 1 = b2 := by simp [nearB]
theorem nearB_iff_not {r0 q0 r1 q1 u a b a2 b2 : Int} : (¬ (r0 < u ∧ u < r1 ∧ a = a2 ∧ b + 1 = b2)) ↔ nearB (r0, q0) (r1, q1) u a b a2 b2 = false := by
  rw [← Bool.not_eq_true, nearB_iff]
theorem nearB_yes {r0 q0 r1 q1 u a b a2 b2 : Int} (n0 : r0 < u) (n1 : u < r1) (n2 : a = a2) (n3 : b + 1 = b2) : nearB (r0, q0) (r1, q1) u a b a2 b2 = true := nearB_iff.2 ⟨n0, n1, n2, n3⟩
theorem rangeOf {w : World} {g : Nat} {t : TypeId} {cs : Array Value} (h : Blk w g t cs) (o : Nat) (xs : List Value) (hx : (cs.toList.drop o).take xs.length = xs) : w.rangeAt g o xs := fun j v hv => by
  rw [h.cell, ← Array.getElem?_toList]
  have hj : j < xs.length := by
    rcases Nat.lt_or_ge j xs.length with h' | h'
    · exact h'
    · rw [List.getElem?_eq_none h'] at hv; cases hv
  rw [← hv, ← hx, List.getElem?_take, if_pos hj, List.getElem?_drop]
end Go.Proofs.YtinpiodfpnbllaaGreatDoor

/- Cases in memory, and the verdict on them in plain words. -/
namespace Go.Proofs.YtinpiodfpnbllaaGreatDoor
open Go.RowKit
set_option linter.unusedVariables false
set_option linter.unusedSimpArgs false

structure CV where
  root : List UInt8
  com : List UInt8
  a : Int
  b : Int
  P : List (List UInt8)
  cp : List UInt8
  need : Int
  op : Bool
  half : List UInt8
  nonce : List UInt8
def caseM (v : CV) (A : Option Addr) (m c : Nat) (Y : Option Addr) (n y : Nat) (H : Option Addr) (k h : Nat) : List Value := [.int .i64 v.a, .int .i64 v.b, .slice A m c, .slice Y n y, .int .i64 v.need, .bool v.op, .slice H k h]
/-- The cells of a case. -/
def caseC (v : CV) (A : Option Addr) (m c : Nat) (Y : Option Addr) (n y : Nat) (H : Option Addr) (k h : Nat) : List Value := cellsB v.root ++ (cellsB v.com ++ (caseM v A m c Y n y H k h ++ cellsB v.nonce))
/-- What a case holds. -/
structure CaseOK (w : World) (v : CV) (A : Option Addr) (m c : Nat) (Y : Option Addr) (n y : Nat) (H : Option Addr) (k h : Nat) : Prop where
  r16 : v.root.length = 16
  c16 : v.com.length = 16
  n16 : v.nonce.length = 16
  hm : v.P.length = m
  hn : v.cp.length = n
  hk : v.half.length = k
  P : KR w A c v.P
  cp : BR w Y y v.cp
  half : BR w H h v.half
theorem CaseOK.below {w w' : World} {v : CV} {A : Option Addr} {m c : Nat} {Y : Option Addr} {n y : Nat} {H : Option Addr} {k h : Nat} (g : CaseOK w v A m c Y n y H k h) (hb : Below w.heap.size w w') : CaseOK w' v A m c Y n y H k h :=
  ⟨g.r16, g.c16, g.n16, g.hm, g.hn, g.hk, g.P.below hb, g.cp.below hb, g.half.below hb⟩
theorem caseC_length {v : CV} {A : Option Addr} {m c : Nat} {Y : Option Addr} {n y : Nat} {H : Option Addr} {k h : Nat} (h1 : v.root.length = 16) (h2 : v.com.length = 16) (h3 : v.nonce.length = 16) : (caseC v A m c Y n y H k h).length = 55 := by
  simp [caseC, caseM, cellsB_length, h1, h2, h3]
/-- The parts of a case's box. -/
structure Box (w : World) (g : Nat) (v : CV) (A : Option Addr) (m c : Nat) (Y : Option Addr) (n y : Nat) (H : Option Addr) (k h : Nat) : Prop where
  root : w.rangeAt g 0 (cellsB v.root)
  com : w.rangeAt g 16 (cellsB v.com)
  pr : w.rangeAt g 32 [.int .i64 v.a, .int .i64 v.b, .slice A m c]
  c35 : w.cell? ⟨g, 35, none⟩ = some (.slice Y n y)
  c36 : w.cell? ⟨g, 36, none⟩ = some (.int .i64 v.need)
  c37 : w.cell? ⟨g, 37, none⟩ = some (.bool v.op)
  c38 : w.cell? ⟨g, 38, none⟩ = some (.slice H k h)
  nonce : w.rangeAt g 39 (cellsB v.nonce)
theorem box_of {w : World} {g : Nat} {t : TypeId} {v : CV} {A : Option Addr} {m c : Nat} {Y : Option Addr} {n y : Nat} {H : Option Addr} {k h : Nat} (hB : Blk w g t (caseC v A m c Y n y H k h).toArray) (h1 : v.root.length = 16) (h2 : v.com.length = 16) (h3 : v.nonce.length = 16) : Box w g v A m c Y n y H k h := by
  have d1 : (caseC v A m c Y n y H k h).drop 16 = cellsB v.com ++ (caseM v A m c Y n y H k h ++ cellsB v.nonce) := List.drop_left' (by rw [cellsB_length, h1])
  have d2 : (caseC v A m c Y n y H k h).drop 32 = caseM v A m c Y n y H k h ++ cellsB v.nonce := by
    rw [show 32 = 16 + 16 from rfl, ← List.drop_drop, d1]
    exact List.drop_left' (by rw [cellsB_length, h2])
  have d3 : (caseC v A m c Y n y H k h).drop 39 = cellsB v.nonce := by
    rw [show 39 = 32 + 7 from rfl, ← List.drop_drop, d2]
    exact List.drop_left' rfl
  have mid : w.rangeAt g 32 (caseM v A m c Y n y H k h) := rangeOf hB 32 _ (by rw [d2]; exact List.take_left)
  refine ⟨rangeOf hB 0 _ ?_, rangeOf hB 16 _ ?_, rangeOf hB 32 _ ?_, mid 3 _ rfl, mid 4 _ rfl, mid 5 _ rfl, mid 6 _ rfl, rangeOf hB 39 _ ?_⟩
  · rw [List.drop_zero]; exact List.take_left
  · rw [d1]; exact List.take_left
  · rw [d2]; rfl
  · rw [d3]; exact List.take_length
theorem case_info {v : CV} {A : Option Addr} {m c : Nat} {Y : Option Addr} {n y : Nat} {H : Option Addr} {k h : Nat} (h1 : v.root.length = 16) (h2 : v.com.length = 16) (h3 : v.nonce.length = 16) : (Tryz.prog.info? 29).map (·.size) = some (caseC v A m c Y n y H k h).toArray.size := by
  rw [List.size_toArray, caseC_length h1 h2 h3]; kernel_rfl
/-- In how many places two lists of symbols agree. -/
def agreeN (x y : List UInt8) (i : Nat) : Nat := sumA x y i
where sumA (x y : List UInt8) : Nat → Nat
  | 0 => 0
  | i + 1 => sumA x y i + if bt x i = bt y i then 1 else 0
theorem agreeN_yes {x y : List UInt8} {i : Nat} (h : bt x i = bt y i) : agreeN x y (i + 1) = agreeN x y i + 1 := by
  show agreeN.sumA x y i + (if bt x i = bt y i then 1 else 0) = _
  rw [if_pos h]; rfl
theorem agreeN_no {x y : List UInt8} {i : Nat} (h : ¬ bt x i = bt y i) : agreeN x y (i + 1) = agreeN x y i := by
  show agreeN.sumA x y i + (if bt x i = bt y i then 1 else 0) = _
  rw [if_neg h]; rfl
theorem agreeN_le (x y : List UInt8) (i : Nat) : agreeN x y i ≤ i := by
  induction i with
  | zero => exact Nat.le_refl _
  | succ i ih =>
    by_cases h : bt x i = bt y i
    · rw [agreeN_yes h]; omega
    · rw [agreeN_no h]; omega
theorem agreeN_sym (x y : List UInt8) (i : Nat) : agreeN x y i = agreeN y x i := by
  induction i with
  | zero => rfl
  | succ i ih =>
    by_cases h : bt x i = bt y i
    · rw [agreeN_yes h, agreeN_yes h.symm, ih]
    · rw [agreeN_no h, agreeN_no (fun e => h e.symm), ih]
def givesB (v : CV) : Bool := (climbS v.com v.a.toNat v.b.toNat v.P).1 == v.root
def opensB (v : CV) : Bool := v.op && (decide (v.half.length = v.cp.length) && (halfB v.half 1 && (digS (openT v.half v.nonce) == v.com)))
def agreesB (v : CV) : Bool := decide (v.need ≤ (agreeN v.half v.cp v.cp.length : Int))
def fitB (v : CV) : Bool := halfB v.cp 2 && (decide (1 ≤ v.need) && (decide (v.need ≤ (v.cp.length : Int)) && fitsB v.a v.b v.P.length))
/-- The verdict on a case, or the error. -/
def judgeS (v : CV) : Int × Int := if fitB v = false then (0, 8) else if givesB v = false then (1, 0) else if opensB v = false then (2, 0) else if agreesB v = true then (3, 0) else (4, 0)
end Go.Proofs.YtinpiodfpnbllaaGreatDoor

/- A case among a law's arguments, opened; and what the row's condition on the table of the tests says. -/
namespace Go.Proofs.YtinpiodfpnbllaaGreatDoor
open Go.ChangeShapes Go.WideShapes Go.ChangeAt Go.RowKit Go.Deep
set_option linter.unusedVariables false

theorem cut_at {l xs : List Value} (a b : Nat) (h : (l.drop a).take b = xs) : l.drop a = xs ++ l.drop (a + b) := by
  rw [← h, ← List.drop_drop]; exact (List.take_append_drop b (l.drop a)).symm
set_option maxRecDepth 100000 in
theorem case_of_trod {H : Type} {enc : TypeId × Value → H} {W : World} {fuel : Nat} {cs : List Value} {x : DataW H × List MemPlace} (h : DataW.trod enc Tryz.prog W 0 (fun _ => true) true fuel 29 cs = some x)
    (hw : ∀ n ∈ x.1.weights Tryz.prog 29, n ≤ reachBytes) : ∃ v A m c Y n y H k h, cs = caseC v A m c Y n y H k h ∧ CaseOK W v A m c Y n y H k h := by
  obtain ⟨xs, n, _, rfl, hl, hlen, hf⟩ := DataW.trod_struct Tryz.underlying29 h
  match xs, hlen with
  | [y0, y1, y2, y3, y4, y5, y6, y7], _ =>
    have hw' : ∀ n ∈ DataW.weightsEach Tryz.prog [24, 24, 27, 22, 3, 4, 22, 24] [y0.1, y1.1, y2.1, y3.1, y4.1, y5.1, y6.1, y7.1], n ≤ reachBytes := by simpa [DataW.weights, Tryz.underlying29] using hw
    have h0 := hf 0 _ rfl
    have h1 := hf 1 _ rfl
    have h2 := hf 2 _ rfl
    have h3 := hf 3 _ rfl
    have h4 := hf 4 _ rfl
    have h5 := hf 5 _ rfl
    have h6 := hf 6 _ rfl
    have h7 := hf 7 _ rfl
    change DataW.trod enc Tryz.prog W 0 (fun _ => true) true n 24 ((cs.drop 0).take (Tryz.prog.cellsOf 24)) = some y0 at h0
    change DataW.trod enc Tryz.prog W 0 (fun _ => true) true n 24 ((cs.drop 16).take (Tryz.prog.cellsOf 24)) = some y1 at h1
    change DataW.trod enc Tryz.prog W 0 (fun _ => true) true n 27 ((cs.drop 32).take (Tryz.prog.cellsOf 27)) = some y2 at h2
    change DataW.trod enc Tryz.prog W 0 (fun _ => true) true n 22 ((cs.drop 35).take (Tryz.prog.cellsOf 22)) = some y3 at h3
    change DataW.trod enc Tryz.prog W 0 (fun _ => true) true n 3 ((cs.drop 36).take (Tryz.prog.cellsOf 3)) = some y4 at h4
    change DataW.trod enc Tryz.prog W 0 (fun _ => true) true n 4 ((cs.drop 37).take (Tryz.prog.cellsOf 4)) = some y5 at h5
    change DataW.trod enc Tryz.prog W 0 (fun _ => true) true n 22 ((cs.drop 38).take (Tryz.prog.cellsOf 22)) = some y6 at h6
    change DataW.trod enc Tryz.prog W 0 (fun _ => true) true n 24 ((cs.drop 39).take (Tryz.prog.cellsOf 24)) = some y7 at h7
    have ck : Tryz.prog.cellsOf 24 = 16 := by kernel_rfl
    have cb : Tryz.prog.cellsOf 22 = 1 := by kernel_rfl
    have cbo : Tryz.prog.cellsOf 4 = 1 := by kernel_rfl
    rw [ck] at h0 h1 h7
    rw [cb] at h3 h6
    rw [cbo] at h5
    rw [cells_proof] at h2
    rw [cells_i64] at h4
    rw [show Tryz.prog.cellsOf 29 = 55 from by kernel_rfl] at hl
    obtain ⟨root, r16, e0⟩ := key_of_trod h0
    obtain ⟨com, c16, e1⟩ := key_of_trod h1
    obtain ⟨a, b, A, c, P, e2, hk⟩ := proof_of_trod h2 (fun m hm => hw' m (DataW.weights_mem_each (j := 2) rfl rfl m hm))
    obtain ⟨Y, y, cp, e3, hc⟩ := bytes_of_trod Tryz.underlying22 h3 (fun m hm => hw' m (DataW.weights_mem_each (j := 3) rfl rfl m hm))
    obtain ⟨need, e4, _⟩ := int_of_trod h4
    obtain ⟨op, e5, _⟩ := DataW.trod_bool Tryz.underlying4 h5
    obtain ⟨H, hh, half, e6, hf'⟩ := bytes_of_trod Tryz.underlying22 h6 (fun m hm => hw' m (DataW.weights_mem_each (j := 6) rfl rfl m hm))
    obtain ⟨nonce, n16, e7⟩ := key_of_trod h7
    refine ⟨⟨root, com, a, b, P, cp, need, op, half, nonce⟩, A, P.length, c, Y, cp.length, y, H, half.length, hh, ?_, ⟨r16, c16, n16, rfl, rfl, rfl, hk, hc, hf'⟩⟩
    have s0 := cut_at 0 16 e0
    have s1 := cut_at 16 16 e1
    have s2 := cut_at 32 3 e2
    have s3 := cut_at 35 1 e3
    have s4 := cut_at 36 1 e4
    have s5 := cut_at 37 1 e5
    have s6 := cut_at 38 1 e6
    have s7 := cut_at 39 16 e7
    have s8 : cs.drop 55 = [] := List.drop_of_length_le (by omega)
    rw [List.drop_zero] at s0
    refine s0.trans ?_
    show cellsB root ++ cs.drop 16 = _
    rw [s1]
    show cellsB root ++ (cellsB com ++ cs.drop 32) = _
    rw [s2]
    show cellsB root ++ (cellsB com ++ (_ ++ cs.drop 35)) = _
    rw [s3]
    show cellsB root ++ (cellsB com ++ (_ ++ (_ ++ cs.drop 36))) = _
    rw [s4]
    show cellsB root ++ (cellsB com ++ (_ ++ (_ ++ (_ ++ cs.drop 37)))) = _
    rw [s5]
    show cellsB root ++ (cellsB com ++ (_ ++ (_ ++ (_ ++ (_ ++ cs.drop 38))))) = _
    rw [s6]
    show cellsB root ++ (cellsB com ++ (_ ++ (_ ++ (_ ++ (_ ++ (_ ++ cs.drop 39)))))) = _
    rw [s7]
    show cellsB root ++ (cellsB com ++ (_ ++ (_ ++ (_ ++ (_ ++ (_ ++ (_ ++ cs.drop 55))))))) = _
    rw [s8, List.append_nil]
    rfl
set_option maxRecDepth 100000 in
theorem open_case {H : Type} {enc : TypeId × Value → H} {W : World} {b0 : Nat} {v : Value} {d : DataW H} {ps : List MemPlace} (hval : Value.okWide Tryz.prog W .any b0 29 v) (hd : DataW.Trod enc Tryz.prog W 0 (fun _ => true) true 29 v d ps)
    (hw : ∀ n ∈ d.weights Tryz.prog 29, n ≤ reachBytes) : ∃ z A m c Y n y H k h, v = .agg (caseC z A m c Y n y H k h).toArray ∧ CaseOK W z A m c Y n y H k h := by
  obtain ⟨cs, rfl, hsz⟩ := okWide_struct Tryz.underlying29 hval
  obtain ⟨fuel, hf⟩ := hd
  obtain ⟨z, A, m, c, Y, n, y, H, k, h, e, g⟩ := case_of_trod hf hw
  refine ⟨z, A, m, c, Y, n, y, H, k, h, ?_, g⟩
  have : cs = cs.toList.toArray := by simp
  rw [this]
  exact congrArg (fun l => Value.agg (List.toArray l)) e
end Go.Proofs.YtinpiodfpnbllaaGreatDoor

/- The tests of a case. -/
namespace Go.Proofs.YtinpiodfpnbllaaGreatDoor
open Go.RowKit
set_option linter.unusedVariables false
set_option linter.unusedSimpArgs false

set_option maxHeartbeats 4000000 in
set_option maxRecDepth 100000 in
theorem test1_any (v : CV) (A : Option Addr) (m c : Nat) (Y : Option Addr) (n y : Nat) (H : Option Addr) (k h : Nat) (w : World) (g : CaseOK w v A m c Y n y H k h) (hf : fitsB v.a v.b m = true) :
    Calls Tryz.prog 222 #[.agg (caseC v A m c Y n y H k h).toArray] w fun e w' => e = .returned (.bool (givesB v)) ∧ Below w.heap.size w w' := by
  have b0 := alloc_bel w (.cells (caseC v A m c Y n y H k h).toArray 29)
  have B0 := box_of (Blk.new w 29 (caseC v A m c Y n y H k h).toArray) g.r16 g.c16 g.n16
  have HR := Lib.hid g.r16
  have HC := Lib.hid g.c16
  obtain ⟨⟨g1, g2, g3, g4⟩, g5⟩ := fitsB_iff.1 hf
  have HG : Hid (∀ W, Below w.heap.size w W → Calls Tryz.prog 80 #[.agg (cellsB v.root).toArray, .agg (cellsB v.com).toArray, .agg #[.int .i64 v.a, .int .i64 v.b, .slice A m c]] W fun e w' => e = .returned (.bool (givesB v)) ∧ Below W.heap.size W w') := fun W hW => by
    have := gives_any v.root v.com v.a.toNat v.b.toNat v.P A c W g.hm g.r16 g.c16 (by omega) (by omega) (by omega) (by rw [g.hm]; exact g5) (g.P.below hW)
    rwa [Int.toNat_of_nonneg (by omega), Int.toNat_of_nonneg (by omega)] at this
  have HB := Lib.hid B0
  generalize caseC v A m c Y n y H k h = cs at HB b0 ⊢
  obtain ⟨W0, hW0⟩ : ∃ W, W = w.alloc (.cells cs.toArray 29) := ⟨_, rfl⟩
  rw [← hW0] at HB b0
  have HW0 := Lib.hid hW0
  generalize givesB v = q at HG ⊢
  obtain ⟨root, com, a, b, P, cp, need, op, half, nonce⟩ := v
  dsimp only at HR HC HG
  have R0 := Lib.hid HB.out.root
  have R1 := Lib.hid HB.out.com
  have R2 := Lib.hid HB.out.pr
  dsimp only at R0 R1 R2
  clear g hf g1 g2 g3 g4 g5 hW0 B0 HB
  go_enter Tryz.func222, Tryz.ntmps222
  go_wp2_with (first
    | ((first | rw [← HW0.out] | skip); refine wpList_load_mid rfl 24 (.tmp 3) rfl w.heap.size 0 rfl (cellsB root) _ R0.out under_key rfl (key_info HR.out) ?_)
    | (refine wpList_load_mid rfl 24 (.tmp 5) rfl w.heap.size 16 rfl (cellsB com) _ R1.out under_key rfl (key_info HC.out) ?_)
    | (refine wpList_load_mid rfl 27 (.tmp 7) rfl w.heap.size 32 rfl [.int .i64 a, .int .i64 b, .slice A m c] _ R2.out Tryz.underlying27 rfl (by kernel_rfl) ?_)
    | (go_at_call 80; (with_reducible refine (HG.out _ b0).mono ?_); rintro e w1 ⟨rfl, hb1⟩; have D1 := bel_on b0 hb1; clear hb1))
  go_ret
  exact ⟨rfl, D1⟩

set_option maxHeartbeats 8000000 in
set_option maxRecDepth 100000 in
theorem test2_any (v : CV) (A : Option Addr) (m c : Nat) (Y : Option Addr) (n y : Nat) (H : Option Addr) (k h : Nat) (w : World) (g : CaseOK w v A m c Y n y H k h) :
    Calls Tryz.prog 223 #[.agg (caseC v A m c Y n y H k h).toArray] w fun e w' => e = .returned (.bool (opensB v)) ∧ Below w.heap.size w w' := by
  have b0 := alloc_bel w (.cells (caseC v A m c Y n y H k h).toArray 29)
  have B0 := Blk.new w 29 (caseC v A m c Y n y H k h).toArray
  have HBX : Hid (∀ W, Below (w.alloc (.cells (caseC v A m c Y n y H k h).toArray 29)).heap.size (w.alloc (.cells (caseC v A m c Y n y H k h).toArray 29)) W → Box W w.heap.size v A m c Y n y H k h) := fun W hW => box_of (B0.below' hW) g.r16 g.c16 g.n16
  have D0 : Below (w.alloc (.cells (caseC v A m c Y n y H k h).toArray 29)).heap.size (w.alloc (.cells (caseC v A m c Y n y H k h).toArray 29)) (w.alloc (.cells (caseC v A m c Y n y H k h).toArray 29)) := Below.refl _ _
  have hkl := g.half.len
  have hnl := g.cp.len
  have HC := Lib.hid g.c16
  have HNN := Lib.hid g.n16
  have HSY : Hid (∀ W, Below w.heap.size w W → Calls Tryz.prog 61 #[.slice H k h, .int .u8 1] W fun e w' => e = .returned (.bool (halfB v.half 1)) ∧ W = w') := fun W hW => auditSyms_any H h v.half 1 W g.hk (g.half.below hW) (by omega)
  have HCO : Hid (halfB v.half 1 = true → ∀ W, Below w.heap.size w W → Calls Tryz.prog 62 #[.slice H k h, .agg (cellsB v.nonce).toArray] W fun e w' => e = .returned (.agg (cellsB (digS (openT v.half v.nonce))).toArray) ∧ Below W.heap.size W w') := fun hh W hW => commit_any v.half v.nonce H h W g.hk (by have := (halfB_iff.1 hh).1.2; rw [g.hk] at this; omega) g.n16 (g.half.below hW)
  have HDL := Lib.hid (digS_length (openT v.half v.nonce))
  have HOP : Hid (opensB v = (v.op && (decide (k = n) && (halfB v.half 1 && (digS (openT v.half v.nonce) == v.com))))) := by unfold Hid opensB; rw [g.hk, g.hn]
  generalize digS (openT v.half v.nonce) = d at HCO HDL HOP
  generalize halfB v.half 1 = s at HSY HCO HOP
  generalize opensB v = q at HOP ⊢
  have hki : (k : Int) ≤ 140737488351232 := by rw [g.hk] at hkl; omega
  have hni : (n : Int) ≤ 140737488351232 := by rw [g.hn] at hnl; omega
  generalize caseC v A m c Y n y H k h = cs at HBX b0 D0 ⊢
  obtain ⟨W0, hW0⟩ : ∃ W, W = w.alloc (.cells cs.toArray 29) := ⟨_, rfl⟩
  rw [← hW0] at HBX b0 D0
  have HW0 := Lib.hid hW0
  obtain ⟨root, com, a, b, P, cp, need, op, half, nonce⟩ := v
  dsimp only at HC HNN HSY HCO HOP
  have HS : Hid (∀ W, Below W0.heap.size W0 W → W.cell? ⟨w.heap.size, 37, none⟩ = some (.bool op) ∧ W.cell? ⟨w.heap.size, 38, none⟩ = some (.slice H k h) ∧ W.cell? ⟨w.heap.size, 35, none⟩ = some (.slice Y n y) ∧ W.rangeAt w.heap.size 39 (cellsB nonce) ∧ W.rangeAt w.heap.size 16 (cellsB com)) := fun W hW => by
    have := HBX.out W hW
    exact ⟨this.c37, this.c38, this.c35, this.nonce, this.com⟩
  clear g hkl hnl hW0 B0 HBX
  go_enter Tryz.func223, Tryz.ntmps223
  go_wp2_with fail
  rw [← HW0.out]
  refine wp_region_noPanic ?_
  refine wp_region_held_drew (S := fun w' => w'.cell? ⟨w.heap.size, 37, none⟩ = some (.bool op) ∧ w'.cell? ⟨w.heap.size, 38, none⟩ = some (.slice H k h) ∧ w'.cell? ⟨w.heap.size, 35, none⟩ = some (.slice Y n y) ∧ w'.rangeAt w.heap.size 39 (cellsB nonce) ∧ w'.rangeAt w.heap.size 16 (cellsB com)) (by kernel_rfl) (HS.out _ D0.drew) (fun hS => ?_)
  refine hd_take 0 (_) rfl rfl (by kernel_rfl) (by kernel_rfl) (by kernel_rfl) (fun _ _ _ h => h) (fun w hw => by go_simp <;> rfl) hS ?_
  simp only [List.getElem_toArray, List.getElem_cons_succ, List.getElem_cons_zero, Act.put, List.setIfInBounds_toArray, List.set_cons_zero, List.set_cons_succ]
  refine hd_take 1 (.bool op) rfl rfl (by kernel_rfl) (by kernel_rfl) (by kernel_rfl) (fun _ _ _ h => h) (fun w hw => by have hx := hw.1; simp [go_sem, hx]) hS ?_
  simp only [List.getElem_toArray, List.getElem_cons_succ, List.getElem_cons_zero, Act.put, List.setIfInBounds_toArray, List.set_cons_zero, List.set_cons_succ]
  refine hd_take 2 (_) rfl rfl (by kernel_rfl) (by kernel_rfl) (by kernel_rfl) (fun _ _ _ h => h) (fun w hw => by go_simp <;> rfl) hS ?_
  simp only [List.getElem_toArray, List.getElem_cons_succ, List.getElem_cons_zero, Act.put, List.setIfInBounds_toArray, List.set_cons_zero, List.set_cons_succ]
  cases op with
  | false =>
    refine hg_skip 3 rfl rfl (by kernel_rfl) (by kernel_rfl) (by kernel_rfl) (fun _ _ _ h => h) hS ?_
    refine hg_skip 4 rfl rfl (by kernel_rfl) (by kernel_rfl) (by kernel_rfl) (fun _ _ _ h => h) hS ?_
    refine hg_skip 5 rfl rfl (by kernel_rfl) (by kernel_rfl) (by kernel_rfl) (fun _ _ _ h => h) hS ?_
    refine hg_skip 6 rfl rfl (by kernel_rfl) (by kernel_rfl) (by kernel_rfl) (fun _ _ _ h => h) hS ?_
    refine hg_skip 7 rfl rfl (by kernel_rfl) (by kernel_rfl) (by kernel_rfl) (fun _ _ _ h => h) hS ?_
    refine hg_skip 8 rfl rfl (by kernel_rfl) (by kernel_rfl) (by kernel_rfl) (fun _ _ _ h => h) hS ?_
    refine hg_skip 9 rfl rfl (by kernel_rfl) (by kernel_rfl) (by kernel_rfl) (fun _ _ _ h => h) hS ?_
    simp only [List.getElem_toArray, List.getElem_cons_succ, List.getElem_cons_zero, Act.put, List.setIfInBounds_toArray, List.set_cons_zero, List.set_cons_succ]
    refine hd_take 10 (_) rfl rfl (by kernel_rfl) (by kernel_rfl) (by kernel_rfl) (fun _ _ _ h => h) (fun w hw => by go_simp <;> rfl) hS ?_
    simp only [List.getElem_toArray, List.getElem_cons_succ, List.getElem_cons_zero, Act.put, List.setIfInBounds_toArray, List.set_cons_zero, List.set_cons_succ]
    refine hd_take 11 (_) rfl rfl (by kernel_rfl) (by kernel_rfl) (by kernel_rfl) (fun _ _ _ h => h) (fun w hw => by go_simp <;> rfl) hS ?_
    simp only [List.getElem_toArray, List.getElem_cons_succ, List.getElem_cons_zero, Act.put, List.setIfInBounds_toArray, List.set_cons_zero, List.set_cons_succ]
    refine hg_skip 12 rfl rfl (by kernel_rfl) (by kernel_rfl) (by kernel_rfl) (fun _ _ _ h => h) hS ?_
    refine hg_skip 13 rfl rfl (by kernel_rfl) (by kernel_rfl) (by kernel_rfl) (fun _ _ _ h => h) hS ?_
    refine hg_skip 14 rfl rfl (by kernel_rfl) (by kernel_rfl) (by kernel_rfl) (fun _ _ _ h => h) hS ?_
    simp only [List.getElem_toArray, List.getElem_cons_succ, List.getElem_cons_zero, Act.put, List.setIfInBounds_toArray, List.set_cons_zero, List.set_cons_succ]
    refine hd_take 15 (_) rfl rfl (by kernel_rfl) (by kernel_rfl) (by kernel_rfl) (fun _ _ _ h => h) (fun w hw => by go_simp <;> rfl) hS ?_
    simp only [List.getElem_toArray, List.getElem_cons_succ, List.getElem_cons_zero, Act.put, List.setIfInBounds_toArray, List.set_cons_zero, List.set_cons_succ]
    refine hd_take 16 (_) rfl rfl (by kernel_rfl) (by kernel_rfl) (by kernel_rfl) (fun _ _ _ h => h) (fun w hw => by go_simp <;> rfl) hS ?_
    simp only [List.getElem_toArray, List.getElem_cons_succ, List.getElem_cons_zero, Act.put, List.setIfInBounds_toArray, List.set_cons_zero, List.set_cons_succ]
    refine hg_skip 17 rfl rfl (by kernel_rfl) (by kernel_rfl) (by kernel_rfl) (fun _ _ _ h => h) hS ?_
    refine hg_skip 18 rfl rfl (by kernel_rfl) (by kernel_rfl) (by kernel_rfl) (fun _ _ _ h => h) hS ?_
    refine hg_skip 19 rfl rfl (by kernel_rfl) (by kernel_rfl) (by kernel_rfl) (fun _ _ _ h => h) hS ?_
    refine hg_skip 20 rfl rfl (by kernel_rfl) (by kernel_rfl) (by kernel_rfl) (fun _ _ _ h => h) hS ?_
    refine hg_skip 21 rfl rfl (by kernel_rfl) (by kernel_rfl) (by kernel_rfl) (fun _ _ _ h => h) hS ?_
    refine hg_skip 22 rfl rfl (by kernel_rfl) (by kernel_rfl) (by kernel_rfl) (fun _ _ _ h => h) hS ?_
    refine hg_skip 23 rfl rfl (by kernel_rfl) (by kernel_rfl) (by kernel_rfl) (fun _ _ _ h => h) hS ?_
    refine hg_skip 24 rfl rfl (by kernel_rfl) (by kernel_rfl) (by kernel_rfl) (fun _ _ _ h => h) hS ?_
    simp only [List.getElem_toArray, List.getElem_cons_succ, List.getElem_cons_zero, Act.put, List.setIfInBounds_toArray, List.set_cons_zero, List.set_cons_succ]
    refine hd_take 25 (_) rfl rfl (by kernel_rfl) (by kernel_rfl) (by kernel_rfl) (fun _ _ _ h => h) (fun w hw => by go_simp <;> rfl) hS ?_
    simp only [List.getElem_toArray, List.getElem_cons_succ, List.getElem_cons_zero, Act.put, List.setIfInBounds_toArray, List.set_cons_zero, List.set_cons_succ]
    refine hd_take 26 (_) rfl rfl (by kernel_rfl) (by kernel_rfl) (by kernel_rfl) (fun _ _ _ h => h) (fun w hw => by go_simp <;> rfl) hS ?_
    simp only [List.getElem_toArray, List.getElem_cons_succ, List.getElem_cons_zero, Act.put, List.setIfInBounds_toArray, List.set_cons_zero, List.set_cons_succ]
    refine wpAnyH_done (by kernel_rfl) (NoPanic.normal ?_) _
    clear hS
    go_wp2_with fail
    go_ret
    exact ⟨by rw [HOP.out]; simp, bel_on b0 D0.drew⟩
  | true =>
    refine hg_take 3 (_) rfl rfl (by kernel_rfl) (by kernel_rfl) (by kernel_rfl) (fun _ _ _ h => h) (fun w hw => by go_simp <;> rfl) hS ?_
    refine hg_take 6 (_) rfl rfl (by kernel_rfl) (by kernel_rfl) (by kernel_rfl) (fun _ _ _ h => h) (fun w hw => by go_simp <;> rfl) hS ?_
    simp only [List.getElem_toArray, List.getElem_cons_succ, List.getElem_cons_zero, Act.put, List.setIfInBounds_toArray, List.set_cons_zero, List.set_cons_succ]
    refine hg_take 4 (.slice H k h) rfl rfl (by kernel_rfl) (by kernel_rfl) (by kernel_rfl) (fun _ _ _ h => h) (fun w hw => by have hx := hw.2.1; simp [go_sem, hx]) hS ?_
    refine hg_take 7 (.slice Y n y) rfl rfl (by kernel_rfl) (by kernel_rfl) (by kernel_rfl) (fun _ _ _ h => h) (fun w hw => by have hx := hw.2.2.1; simp [go_sem, hx]) hS ?_
    simp only [List.getElem_toArray, List.getElem_cons_succ, List.getElem_cons_zero, Act.put, List.setIfInBounds_toArray, List.set_cons_zero, List.set_cons_succ]
    refine hg_take 5 (_) rfl rfl (by kernel_rfl) (by kernel_rfl) (by kernel_rfl) (fun _ _ _ h => h) (fun w hw => by go_simp <;> rfl) hS ?_
    refine hg_take 8 (_) rfl rfl (by kernel_rfl) (by kernel_rfl) (by kernel_rfl) (fun _ _ _ h => h) (fun w hw => by go_simp <;> rfl) hS ?_
    simp only [List.getElem_toArray, List.getElem_cons_succ, List.getElem_cons_zero, Act.put, List.setIfInBounds_toArray, List.set_cons_zero, List.set_cons_succ]
    by_cases hkn : k = n
    · have e1 : ((k : Int) == (n : Int)) = true := by simp; omega
      refine hg_take 9 (.bool true) rfl rfl (by kernel_rfl) (by kernel_rfl) (by kernel_rfl) (fun _ _ _ h => h) (fun w hw => by simp [go_sem, e1]) hS ?_
      simp only [List.getElem_toArray, List.getElem_cons_succ, List.getElem_cons_zero, Act.put, List.setIfInBounds_toArray, List.set_cons_zero, List.set_cons_succ]
      refine hd_take 10 (_) rfl rfl (by kernel_rfl) (by kernel_rfl) (by kernel_rfl) (fun _ _ _ h => h) (fun w hw => by go_simp <;> rfl) hS ?_
      simp only [List.getElem_toArray, List.getElem_cons_succ, List.getElem_cons_zero, Act.put, List.setIfInBounds_toArray, List.set_cons_zero, List.set_cons_succ]
      refine hd_take 11 (_) rfl rfl (by kernel_rfl) (by kernel_rfl) (by kernel_rfl) (fun _ _ _ h => h) (fun w hw => by go_simp <;> rfl) hS ?_
      simp only [List.getElem_toArray, List.getElem_cons_succ, List.getElem_cons_zero, Act.put, List.setIfInBounds_toArray, List.set_cons_zero, List.set_cons_succ]
      refine hg_take 12 (_) rfl rfl (by kernel_rfl) (by kernel_rfl) (by kernel_rfl) (fun _ _ _ h => h) (fun w hw => by go_simp <;> rfl) hS ?_
      simp only [List.getElem_toArray, List.getElem_cons_succ, List.getElem_cons_zero, Act.put, List.setIfInBounds_toArray, List.set_cons_zero, List.set_cons_succ]
      refine hg_take 13 (.slice H k h) rfl rfl (by kernel_rfl) (by kernel_rfl) (by kernel_rfl) (fun _ _ _ h => h) (fun w hw => by have hx := hw.2.1; simp [go_sem, hx]) hS ?_
      simp only [List.getElem_toArray, List.getElem_cons_succ, List.getElem_cons_zero, Act.put, List.setIfInBounds_toArray, List.set_cons_zero, List.set_cons_succ]
      refine hg_calls 14 61 #[.slice H k h, .int .u8 1] rfl rfl (by kernel_rfl) (by go_simp <;> rfl) ?_
      refine (HSY.out _ (bel_on b0 D0.drew)).mono ?_
      rintro e w3 ⟨rfl, rfl⟩
      refine ⟨_, rfl, hS, ?_⟩
      simp only [List.getElem_toArray, List.getElem_cons_succ, List.getElem_cons_zero, Act.put, List.setIfInBounds_toArray, List.set_cons_zero, List.set_cons_succ]
      cases s with
      | false =>
        refine hd_take 15 (_) rfl rfl (by kernel_rfl) (by kernel_rfl) (by kernel_rfl) (fun _ _ _ h => h) (fun w hw => by go_simp <;> rfl) hS ?_
        simp only [List.getElem_toArray, List.getElem_cons_succ, List.getElem_cons_zero, Act.put, List.setIfInBounds_toArray, List.set_cons_zero, List.set_cons_succ]
        refine hd_take 16 (_) rfl rfl (by kernel_rfl) (by kernel_rfl) (by kernel_rfl) (fun _ _ _ h => h) (fun w hw => by go_simp <;> rfl) hS ?_
        simp only [List.getElem_toArray, List.getElem_cons_succ, List.getElem_cons_zero, Act.put, List.setIfInBounds_toArray, List.set_cons_zero, List.set_cons_succ]
        refine hg_skip 17 rfl rfl (by kernel_rfl) (by kernel_rfl) (by kernel_rfl) (fun _ _ _ h => h) hS ?_
        refine hg_skip 18 rfl rfl (by kernel_rfl) (by kernel_rfl) (by kernel_rfl) (fun _ _ _ h => h) hS ?_
        refine hg_skip 19 rfl rfl (by kernel_rfl) (by kernel_rfl) (by kernel_rfl) (fun _ _ _ h => h) hS ?_
        refine hg_skip 20 rfl rfl (by kernel_rfl) (by kernel_rfl) (by kernel_rfl) (fun _ _ _ h => h) hS ?_
        refine hg_skip 21 rfl rfl (by kernel_rfl) (by kernel_rfl) (by kernel_rfl) (fun _ _ _ h => h) hS ?_
        refine hg_skip 22 rfl rfl (by kernel_rfl) (by kernel_rfl) (by kernel_rfl) (fun _ _ _ h => h) hS ?_
        refine hg_skip 23 rfl rfl (by kernel_rfl) (by kernel_rfl) (by kernel_rfl) (fun _ _ _ h => h) hS ?_
        refine hg_skip 24 rfl rfl (by kernel_rfl) (by kernel_rfl) (by kernel_rfl) (fun _ _ _ h => h) hS ?_
        simp only [List.getElem_toArray, List.getElem_cons_succ, List.getElem_cons_zero, Act.put, List.setIfInBounds_toArray, List.set_cons_zero, List.set_cons_succ]
        refine hd_take 25 (_) rfl rfl (by kernel_rfl) (by kernel_rfl) (by kernel_rfl) (fun _ _ _ h => h) (fun w hw => by go_simp <;> rfl) hS ?_
        simp only [List.getElem_toArray, List.getElem_cons_succ, List.getElem_cons_zero, Act.put, List.setIfInBounds_toArray, List.set_cons_zero, List.set_cons_succ]
        refine hd_take 26 (_) rfl rfl (by kernel_rfl) (by kernel_rfl) (by kernel_rfl) (fun _ _ _ h => h) (fun w hw => by go_simp <;> rfl) hS ?_
        simp only [List.getElem_toArray, List.getElem_cons_succ, List.getElem_cons_zero, Act.put, List.setIfInBounds_toArray, List.set_cons_zero, List.set_cons_succ]
        refine wpAnyH_done (by kernel_rfl) (NoPanic.normal ?_) _
        clear hS
        go_wp2_with fail
        go_ret
        exact ⟨by rw [HOP.out]; simp, bel_on b0 D0.drew⟩
      | true =>
        refine hd_take 15 (_) rfl rfl (by kernel_rfl) (by kernel_rfl) (by kernel_rfl) (fun _ _ _ h => h) (fun w hw => by go_simp <;> rfl) hS ?_
        simp only [List.getElem_toArray, List.getElem_cons_succ, List.getElem_cons_zero, Act.put, List.setIfInBounds_toArray, List.set_cons_zero, List.set_cons_succ]
        refine hd_take 16 (_) rfl rfl (by kernel_rfl) (by kernel_rfl) (by kernel_rfl) (fun _ _ _ h => h) (fun w hw => by go_simp <;> rfl) hS ?_
        simp only [List.getElem_toArray, List.getElem_cons_succ, List.getElem_cons_zero, Act.put, List.setIfInBounds_toArray, List.set_cons_zero, List.set_cons_succ]
        refine hg_take 17 (_) rfl rfl (by kernel_rfl) (by kernel_rfl) (by kernel_rfl) (fun _ _ _ h => h) (fun w hw => by go_simp <;> rfl) hS ?_
        refine hg_take 19 (_) rfl rfl (by kernel_rfl) (by kernel_rfl) (by kernel_rfl) (fun _ _ _ h => h) (fun w hw => by go_simp <;> rfl) hS ?_
        refine hg_take 22 (_) rfl rfl (by kernel_rfl) (by kernel_rfl) (by kernel_rfl) (fun _ _ _ h => h) (fun w hw => by go_simp <;> rfl) hS ?_
        simp only [List.getElem_toArray, List.getElem_cons_succ, List.getElem_cons_zero, Act.put, List.setIfInBounds_toArray, List.set_cons_zero, List.set_cons_succ]
        refine hg_take 18 (.slice H k h) rfl rfl (by kernel_rfl) (by kernel_rfl) (by kernel_rfl) (fun _ _ _ h => h) (fun w hw => by have hx := hw.2.1; simp [go_sem, hx]) hS ?_
        refine hg_load 20 w.heap.size 39 (cellsB nonce) _ _ rfl rfl rfl (by kernel_rfl) (by kernel_rfl) (by kernel_rfl) (fun _ _ _ h => h) rfl (fun w hw => hw.2.2.2.1) under_key rfl (key_info HNN.out) hS ?_
        refine hg_load 23 w.heap.size 16 (cellsB com) _ _ rfl rfl rfl (by kernel_rfl) (by kernel_rfl) (by kernel_rfl) (fun _ _ _ h => h) rfl (fun w hw => hw.2.2.2.2) under_key rfl (key_info HC.out) hS ?_
        simp only [List.getElem_toArray, List.getElem_cons_succ, List.getElem_cons_zero, Act.put, List.setIfInBounds_toArray, List.set_cons_zero, List.set_cons_succ]
        refine hg_calls 21 62 #[.slice H k h, .agg (cellsB nonce).toArray] rfl rfl (by kernel_rfl) (by go_simp <;> rfl) ?_
        refine (HCO.out rfl _ (bel_on b0 D0.drew)).mono ?_
        rintro e w4 ⟨rfl, hb4⟩
        have D4 := bel_on D0.drew hb4
        have hS4 := HS.out _ D4
        refine ⟨_, rfl, hS4, ?_⟩
        simp only [List.getElem_toArray, List.getElem_cons_succ, List.getElem_cons_zero, Act.put, List.setIfInBounds_toArray, List.set_cons_zero, List.set_cons_succ]
        refine hg_take 24 (.bool (d == com)) rfl rfl (by kernel_rfl) (by kernel_rfl) (by kernel_rfl) (fun _ _ _ h => h) (fun w hw => by have hx := equalIn_keys w d com HDL HC; simp [go_sem, hx]) hS4 ?_
        simp only [List.getElem_toArray, List.getElem_cons_succ, List.getElem_cons_zero, Act.put, List.setIfInBounds_toArray, List.set_cons_zero, List.set_cons_succ]
        refine hd_take 25 (_) rfl rfl (by kernel_rfl) (by kernel_rfl) (by kernel_rfl) (fun _ _ _ h => h) (fun w hw => by go_simp <;> rfl) hS4 ?_
        simp only [List.getElem_toArray, List.getElem_cons_succ, List.getElem_cons_zero, Act.put, List.setIfInBounds_toArray, List.set_cons_zero, List.set_cons_succ]
        refine hd_take 26 (_) rfl rfl (by kernel_rfl) (by kernel_rfl) (by kernel_rfl) (fun _ _ _ h => h) (fun w hw => by go_simp <;> rfl) hS4 ?_
        simp only [List.getElem_toArray, List.getElem_cons_succ, List.getElem_cons_zero, Act.put, List.setIfInBounds_toArray, List.set_cons_zero, List.set_cons_succ]
        refine wpAnyH_done (by kernel_rfl) (NoPanic.normal ?_) _
        clear hS hS4 hb4
        have HKN := Lib.hid hkn
        clear hkn
        generalize hdc : (d == com) = z
        have HDC := Lib.hid hdc
        clear hdc
        go_wp2_with fail
        go_ret
        exact ⟨by rw [HOP.out, HDC.out, HKN.out]; simp, bel_on b0 D4⟩
    · have e1 : ((k : Int) == (n : Int)) = false := by simp; omega
      refine hg_take 9 (.bool false) rfl rfl (by kernel_rfl) (by kernel_rfl) (by kernel_rfl) (fun _ _ _ h => h) (fun w hw => by simp [go_sem, e1]) hS ?_
      simp only [List.getElem_toArray, List.getElem_cons_succ, List.getElem_cons_zero, Act.put, List.setIfInBounds_toArray, List.set_cons_zero, List.set_cons_succ]
      refine hd_take 10 (_) rfl rfl (by kernel_rfl) (by kernel_rfl) (by kernel_rfl) (fun _ _ _ h => h) (fun w hw => by go_simp <;> rfl) hS ?_
      simp only [List.getElem_toArray, List.getElem_cons_succ, List.getElem_cons_zero, Act.put, List.setIfInBounds_toArray, List.set_cons_zero, List.set_cons_succ]
      refine hd_take 11 (_) rfl rfl (by kernel_rfl) (by kernel_rfl) (by kernel_rfl) (fun _ _ _ h => h) (fun w hw => by go_simp <;> rfl) hS ?_
      simp only [List.getElem_toArray, List.getElem_cons_succ, List.getElem_cons_zero, Act.put, List.setIfInBounds_toArray, List.set_cons_zero, List.set_cons_succ]
      refine hg_skip 12 rfl rfl (by kernel_rfl) (by kernel_rfl) (by kernel_rfl) (fun _ _ _ h => h) hS ?_
      refine hg_skip 13 rfl rfl (by kernel_rfl) (by kernel_rfl) (by kernel_rfl) (fun _ _ _ h => h) hS ?_
      refine hg_skip 14 rfl rfl (by kernel_rfl) (by kernel_rfl) (by kernel_rfl) (fun _ _ _ h => h) hS ?_
      simp only [List.getElem_toArray, List.getElem_cons_succ, List.getElem_cons_zero, Act.put, List.setIfInBounds_toArray, List.set_cons_zero, List.set_cons_succ]
      refine hd_take 15 (_) rfl rfl (by kernel_rfl) (by kernel_rfl) (by kernel_rfl) (fun _ _ _ h => h) (fun w hw => by go_simp <;> rfl) hS ?_
      simp only [List.getElem_toArray, List.getElem_cons_succ, List.getElem_cons_zero, Act.put, List.setIfInBounds_toArray, List.set_cons_zero, List.set_cons_succ]
      refine hd_take 16 (_) rfl rfl (by kernel_rfl) (by kernel_rfl) (by kernel_rfl) (fun _ _ _ h => h) (fun w hw => by go_simp <;> rfl) hS ?_
      simp only [List.getElem_toArray, List.getElem_cons_succ, List.getElem_cons_zero, Act.put, List.setIfInBounds_toArray, List.set_cons_zero, List.set_cons_succ]
      refine hg_skip 17 rfl rfl (by kernel_rfl) (by kernel_rfl) (by kernel_rfl) (fun _ _ _ h => h) hS ?_
      refine hg_skip 18 rfl rfl (by kernel_rfl) (by kernel_rfl) (by kernel_rfl) (fun _ _ _ h => h) hS ?_
      refine hg_skip 19 rfl rfl (by kernel_rfl) (by kernel_rfl) (by kernel_rfl) (fun _ _ _ h => h) hS ?_
      refine hg_skip 20 rfl rfl (by kernel_rfl) (by kernel_rfl) (by kernel_rfl) (fun _ _ _ h => h) hS ?_
      refine hg_skip 21 rfl rfl (by kernel_rfl) (by kernel_rfl) (by kernel_rfl) (fun _ _ _ h => h) hS ?_
      refine hg_skip 22 rfl rfl (by kernel_rfl) (by kernel_rfl) (by kernel_rfl) (fun _ _ _ h => h) hS ?_
      refine hg_skip 23 rfl rfl (by kernel_rfl) (by kernel_rfl) (by kernel_rfl) (fun _ _ _ h => h) hS ?_
      refine hg_skip 24 rfl rfl (by kernel_rfl) (by kernel_rfl) (by kernel_rfl) (fun _ _ _ h => h) hS ?_
      simp only [List.getElem_toArray, List.getElem_cons_succ, List.getElem_cons_zero, Act.put, List.setIfInBounds_toArray, List.set_cons_zero, List.set_cons_succ]
      refine hd_take 25 (_) rfl rfl (by kernel_rfl) (by kernel_rfl) (by kernel_rfl) (fun _ _ _ h => h) (fun w hw => by go_simp <;> rfl) hS ?_
      simp only [List.getElem_toArray, List.getElem_cons_succ, List.getElem_cons_zero, Act.put, List.setIfInBounds_toArray, List.set_cons_zero, List.set_cons_succ]
      refine hd_take 26 (_) rfl rfl (by kernel_rfl) (by kernel_rfl) (by kernel_rfl) (fun _ _ _ h => h) (fun w hw => by go_simp <;> rfl) hS ?_
      simp only [List.getElem_toArray, List.getElem_cons_succ, List.getElem_cons_zero, Act.put, List.setIfInBounds_toArray, List.set_cons_zero, List.set_cons_succ]
      refine wpAnyH_done (by kernel_rfl) (NoPanic.normal ?_) _
      clear hS
      have HKN := Lib.hid hkn
      clear hkn e1
      go_wp2_with fail
      go_ret
      exact ⟨by rw [HOP.out, decide_eq_false HKN.out]; simp, bel_on b0 D0.drew⟩
end Go.Proofs.YtinpiodfpnbllaaGreatDoor

/- The third test of a case, and the document's count. -/
namespace Go.Proofs.YtinpiodfpnbllaaGreatDoor
open Go.RowKit
set_option linter.unusedVariables false
set_option linter.unusedSimpArgs false

set_option maxHeartbeats 4000000 in
set_option maxRecDepth 100000 in
theorem test3_any (v : CV) (A : Option Addr) (m c : Nat) (Y : Option Addr) (n y : Nat) (H : Option Addr) (k h : Nat) (w : World) (g : CaseOK w v A m c Y n y H k h) (hkn : k = n) (h1 : 1 ≤ n) :
    Calls Tryz.prog 224 #[.agg (caseC v A m c Y n y H k h).toArray] w fun e w' => e = .returned (.bool (agreesB v)) ∧ Below w.heap.size w w' := by
  obtain rfl : n = k := hkn.symm
  have b0 := alloc_bel w (.cells (caseC v A m c Y n y H n h).toArray 29)
  have B0 := Blk.new w 29 (caseC v A m c Y n y H n h).toArray
  have HBX : Hid (∀ W, Below (w.alloc (.cells (caseC v A m c Y n y H n h).toArray 29)).heap.size (w.alloc (.cells (caseC v A m c Y n y H n h).toArray 29)) W → Box W w.heap.size v A m c Y n y H n h) := fun W hW => box_of (B0.below' hW) g.r16 g.c16 g.n16
  have D0 : Below (w.alloc (.cells (caseC v A m c Y n y H n h).toArray 29)).heap.size (w.alloc (.cells (caseC v A m c Y n y H n h).toArray 29)) (w.alloc (.cells (caseC v A m c Y n y H n h).toArray 29)) := Below.refl _ _
  have hkl := g.half.len
  have hki : (n : Int) ≤ 140737488351232 := by rw [g.hk] at hkl; omega
  have HYR := Lib.hid (g.cp.below b0)
  have HHR := Lib.hid (g.half.below b0)
  have HK := Lib.hid g.hk
  have HN := Lib.hid g.hn
  have HAG : Hid (agreesB v = decide (v.need ≤ (agreeN v.half v.cp n : Int))) := by unfold Hid agreesB; rw [g.hn]
  generalize agreesB v = q at HAG ⊢
  generalize caseC v A m c Y n y H n h = cs at HBX b0 D0 HYR HHR ⊢
  obtain ⟨W0, hW0⟩ : ∃ W, W = w.alloc (.cells cs.toArray 29) := ⟨_, rfl⟩
  rw [← hW0] at HBX b0 D0 HYR HHR
  have HW0 := Lib.hid hW0
  obtain ⟨root, com, a, b, P, cp, need, op, half, nonce⟩ := v
  dsimp only at HAG HYR HHR HK HN
  have k35 : W0.cell? ⟨w.heap.size, 35, none⟩ = some (.slice Y n y) := (HBX.out _ D0).c35
  have HS : Hid (∀ W, Below W0.heap.size W0 W → W.cell? ⟨w.heap.size, 36, none⟩ = some (.int .i64 need) ∧ W.cell? ⟨w.heap.size, 38, none⟩ = some (.slice H n h)) := fun W hW => by
    have := HBX.out W hW
    exact ⟨this.c36, this.c38⟩
  obtain ⟨yb, yo, hY, _, _⟩ := HYR.out.at_ (i := 0) (by have := HN.out; omega)
  obtain ⟨hb, ho, hH, _, _⟩ := HHR.out.at_ (i := 0) (by have := HK.out; omega)
  subst hY hH
  have HYB : Hid (∀ W, Below W0.heap.size W0 W → ∀ i, i < n → W.cell? ⟨yb, yo + i, none⟩ = some (.int .u8 (bt cp i : Int))) := fun W hW i hi => by
    obtain ⟨b', off', e, _, hc⟩ := (HYR.out.below hW).at_ (i := i) (by have := HN.out; omega)
    injection e with e
    injection e with e1 e2
    subst e1 e2
    exact hc
  have HHB : Hid (∀ W, Below W0.heap.size W0 W → ∀ i, i < n → W.cell? ⟨hb, ho + i, none⟩ = some (.int .u8 (bt half i : Int))) := fun W hW i hi => by
    obtain ⟨b', off', e, _, hc⟩ := (HHR.out.below hW).at_ (i := i) (by have := HK.out; omega)
    injection e with e
    injection e with e1 e2
    subst e1 e2
    exact hc
  clear g hkl h1 hW0 B0 HBX HYR HHR
  go_enter Tryz.func224, Tryz.ntmps224
  go_wp2_with (rw [← HW0.out])
  go_loop [3, 9] (fun vm vk => ∃ (k : Nat), k ≤ n ∧ vk = .int .i64 (k : Int) ∧ vm = .int .i64 (agreeN half cp k : Int)) (fun _ vk => n - (intOf vk).toNat)
  case atStart => exact ⟨0, by omega, rfl, rfl⟩
  case round =>
    obtain ⟨k, hk, rfl, rfl⟩ := hrel
    have hal := agreeN_le half cp k
    by_cases hkn : k < n
    · have hy := HYB.out _ D0 k hkn
      have hh := HHB.out _ D0 k hkn
      have h38 := (HS.out _ D0).2
      have hki : (k : Int) < n := by omega
      have HST := Lib.hid (agreeN_yes (x := half) (y := cp) (i := k))
      have HSF := Lib.hid (agreeN_no (x := half) (y := cp) (i := k))
      by_cases he : bt half k = bt cp k
      · have hd : (bt cp k : Int) = (bt half k : Int) := by omega
        have HE := Lib.hid (HST.out he)
        rw [hd] at hy
        generalize (bt half k : Int) = z at hy hh
        clear he hd HST HSF
        go_wp2_with fail
        go_round
        case rel => exact ⟨k + 1, by omega, by go_num, by rw [HE.out]; go_num⟩
        case measure => simp [intOf]; omega
      · have hd : ¬ (bt cp k : Int) = (bt half k : Int) := by omega
        have HE := Lib.hid (HSF.out he)
        generalize (bt half k : Int) = z at hy hh hd
        generalize (bt cp k : Int) = z' at hy hd
        clear he HST HSF
        go_wp2_with fail
        go_round
        case rel => exact ⟨k + 1, by omega, by go_num, by rw [HE.out]⟩
        case measure => simp [intOf]; omega
    · obtain rfl : k = n := by omega
      have hki : (k : Int) ≤ k := Int.le_refl _
      have h36 := (HS.out _ D0).1
      generalize agreeN half cp k = z at HAG hal ⊢
      go_wp2_with fail
      go_ret
      exact ⟨by rw [HAG.out]; simp, bel_on b0 D0⟩

set_option maxHeartbeats 4000000 in
/-- The document's count of agreements. -/
theorem refAgreements_any (A C : Option Addr) (ca cc : Nat) (a b : List UInt8) (w : World) {n : Nat} (ha : a.length = n) (hb : b.length = n) (h1 : 1 ≤ n) (hA : BR w A ca a) (hC : BR w C cc b) :
    Calls Tryz.prog 76 #[.slice A n ca, .slice C n cc] w fun e w' => e = .returned (.int .i64 (agreeN a b n : Int)) ∧ Below w.heap.size w w' := by
  have hn : (n : Int) ≤ 140737488351232 := by have := hA.len; omega
  have HA := Lib.hid ha
  have HB := Lib.hid hb
  have HRA := Lib.hid hA
  have HRC := Lib.hid hC
  obtain ⟨xa, xo, hX, _, _⟩ := hA.at_ (i := 0) (by omega)
  obtain ⟨ya, yo, hY, _, _⟩ := hC.at_ (i := 0) (by omega)
  subst hX hY
  have HXB : Hid (∀ W, Below w.heap.size w W → ∀ i, i < n → W.cell? ⟨xa, xo + i, none⟩ = some (.int .u8 (bt a i : Int))) := fun W hW i hi => by
    obtain ⟨b', off', e, _, hc⟩ := (HRA.out.below hW).at_ (i := i) (by have := HA.out; omega)
    injection e with e
    injection e with e1 e2
    subst e1 e2
    exact hc
  have HYB : Hid (∀ W, Below w.heap.size w W → ∀ i, i < n → W.cell? ⟨ya, yo + i, none⟩ = some (.int .u8 (bt b i : Int))) := fun W hW i hi => by
    obtain ⟨b', off', e, _, hc⟩ := (HRC.out.below hW).at_ (i := i) (by have := HB.out; omega)
    injection e with e
    injection e with e1 e2
    subst e1 e2
    exact hc
  clear ha hb h1 hA hC HRA HRC
  have D0 : Below w.heap.size w w := Below.refl _ _
  go_enter Tryz.func76, Tryz.ntmps76
  go_wp2_with fail
  go_loopw [5, 6] (fun vm vk W => ∃ (k : Nat), k ≤ n ∧ vk = .int .i64 (k : Int) ∧ vm = .int .i64 (agreeN a b k : Int) ∧ Below w.heap.size w W) (fun _ vk _ => n - (intOf vk).toNat)
  case atStart => exact ⟨0, by omega, rfl, rfl, D0⟩
  case round =>
    obtain ⟨k, hk, rfl, rfl, DW⟩ := hrel
    have hal := agreeN_le a b k
    by_cases hkn : k < n
    · have hy := HYB.out _ DW k hkn
      have hh := HXB.out _ DW k hkn
      have hki : (k : Int) < n := by omega
      have HST := Lib.hid (agreeN_yes (x := a) (y := b) (i := k))
      have HSF := Lib.hid (agreeN_no (x := a) (y := b) (i := k))
      by_cases he : bt a k = bt b k
      · have hd : (bt b k : Int) = (bt a k : Int) := by omega
        have HE := Lib.hid (HST.out he)
        rw [hd] at hy
        generalize (bt a k : Int) = z at hy hh
        clear he hd HST HSF
        go_wp2_with fail
        go_quiet (fail)
        go_wp2_with fail
        go_roundw
        case rel => exact ⟨k + 1, by omega, by go_num, by rw [HE.out]; go_num, below_drewN DW _⟩
        case measure => simp [intOf]; omega
      · have hd : ¬ (bt a k : Int) = (bt b k : Int) := by omega
        have HE := Lib.hid (HSF.out he)
        generalize (bt a k : Int) = z at hy hh hd
        generalize (bt b k : Int) = z' at hy hd
        clear he HST HSF
        go_wp2_with fail
        go_quiet (fail)
        go_wp2_with fail
        go_roundw
        case rel => exact ⟨k + 1, by omega, by go_num, by rw [HE.out], below_drewN DW _⟩
        case measure => simp [intOf]; omega
    · obtain rfl : k = n := by omega
      have hki : (k : Int) ≤ k := Int.le_refl _
      clear hal
      go_wp2_with fail
      go_ret
      exact ⟨by first | rfl | simp, DW⟩
end Go.Proofs.YtinpiodfpnbllaaGreatDoor
