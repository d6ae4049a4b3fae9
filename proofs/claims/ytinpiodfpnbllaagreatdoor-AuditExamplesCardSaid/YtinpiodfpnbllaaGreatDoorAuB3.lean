/-
  Lemmas and contracts, joined.
-/
import Derived.Test.YtinpiodfpnbllaaGreatDoorShelf
import Derived.Lib.ItoaNum
import Derived.Laws.ResultCell
import Derived.Test.YtinpiodfpnbllaaGreatDoorAuB2
import Derived.Test.YtinpiodfpnbllaaGreatDoorAuB1
import Derived.Test.YtinpiodfpnbllaaGreatDoorAuA1
import Derived.Test.YtinpiodfpnbllaaGreatDoorAu0
set_option linter.unusedSimpArgs false
set_option linter.unusedVariables false
set_option linter.unnecessarySimpa false
/- The program's digest of a node; where it parts a list. -/
namespace Go.Proofs.YtinpiodfpnbllaaGreatDoor
open Go.RowKit
set_option linter.unusedVariables false
attribute [local go_sem] run_storeCells_key run_storeCells_new

set_option maxHeartbeats 1000000 in
set_option maxRecDepth 100000 in
theorem nodeHash_any (a b : List UInt8) (w : World) (ha : a.length = 16) (hb : b.length = 16) :
    Calls Tryz.prog 141 #[.agg (cellsB a).toArray, .agg (cellsB b).toArray] w fun e w' => e = .returned (.agg (cellsB (digS (nodeT a b))).toArray) ∧ Below w.heap.size w w' := by
  have HZ := Lib.hid zero16
  have HA := Lib.hid ha
  have HB := Lib.hid hb
  have b0 := alloc3_bel w (.cells (cellsB a).toArray 24) (.cells (cellsB b).toArray 24) (.cells (cellsB zeroK).toArray 24)
  have B2 := Lib.hid (blk_a2 w (.cells (cellsB a).toArray 24) (.cells (cellsB b).toArray 24) (cellsB zeroK).toArray 24)
  have HNT : Hid (∀ W, Calls Tryz.prog 98 #[.agg (cellsB a).toArray, .agg (cellsB b).toArray] W fun e w' => (∃ A c, e = .returned (.slice A 33 c) ∧ OB W.heap.size w' A c (nodeT a b)) ∧ Below W.heap.size W w') := fun W => nodeText_any a b W ha hb
  have HNL : Hid ((nodeT a b).length = 33) := by unfold Hid nodeT; simp [ha, hb]
  have HD : Hid (∀ W A c, BR W A c (nodeT a b) → Calls Tryz.prog 121 #[.slice A 33 c] W fun e w' => e = .returned (.agg (cellsB (digS (nodeT a b))).toArray) ∧ Below W.heap.size W w') := fun W A c h => digest_any (nodeT a b) A c W HNL.out h (by omega)
  have HDL : Hid ((digS (nodeT a b)).length = 16) := digS_length _
  generalize digS (nodeT a b) = d at HD HDL
  generalize nodeT a b = t at HNT HD HNL
  have hdc : (cellsB d).length = 16 := by rw [cellsB_length, HDL.out]
  have hall := all16 d
  clear ha hb
  go_enter Tryz.func141, Tryz.ntmps141
  go_wp2_with (first
    | (rw [HZ.out]; refine wpList_load_row rfl 24 (.tmp 2) rfl w.heap.size rfl 24 (cellsB a).toArray (0, 0) _ (blk_a0 w _ _ _ _) under_key rfl (cellsB_size _ HA.out) ?_)
    | (refine wpList_load_row rfl 24 (.tmp 3) rfl (w.heap.size + 1) rfl 24 (cellsB b).toArray (0, 0) _ (blk_a1 w _ _ _ _) under_key rfl (cellsB_size _ HB.out) ?_)
    | (go_at_call 98; refine (HNT.out _).mono ?_; rintro e w1 ⟨⟨A1, c1, rfl, ho1⟩, hb1⟩; have HO1 := Lib.hid (ho1.br (by rw [HNL.out]; omega)); have b1 := bel_on b0 hb1; clear ho1)
    | (go_at_call 121; refine (HD.out _ _ _ HO1.out).mono ?_; rintro e w2 ⟨rfl, hb2⟩; have b2 := bel_on b1 hb2; have Q2 := (B2.out.below' hb1).below' hb2; have hr2 : (rowAt w2 (w.heap.size + 1 + 1)).size = 16 := (by rw [Q2.row]; rfl); have hf2 := Q2.free; have HQ2 := Lib.hid Q2; clear Q2))
  exact bodyPost_ret (results_cell_row rfl _ _ (w.heap.size + 1 + 1) _ _ (0, 0) _ rfl (HQ2.out.setRow (cellsB d).toArray) under_key rfl (cellsB_size _ HDL.out)) rfl ⟨rfl, below_setRow b2 (by omega) _⟩

theorem bitLen_split {n : Nat} (h2 : 2 ≤ n) (hn : n ≤ 1000) : ∃ e, Lib.bitLen (n - 1) = e + 1 ∧ splitS n = 2 ^ e ∧ e ≤ 9 := by
  obtain ⟨h1, h3, h4⟩ := Lib.bitLenAux_bounds 64 (n - 1) (by omega) (by omega)
  have hb : Lib.bitLen (n - 1) = Lib.bitLenAux 64 (n - 1) := rfl
  rw [hb]
  generalize Lib.bitLenAux 64 (n - 1) = L at h1 h3 h4 ⊢
  obtain ⟨e, rfl⟩ : ∃ e, L = e + 1 := ⟨L - 1, by omega⟩
  rw [Nat.add_sub_cancel] at h3
  rw [Nat.pow_succ] at h4
  refine ⟨e, rfl, splitS_of (by omega) (by omega), ?_⟩
  rcases Nat.lt_or_ge e 10 with h | h
  · omega
  · have := Nat.pow_le_pow_right (show 1 ≤ 2 by omega) h
    omega
set_option maxHeartbeats 1000000 in
theorem split_any (n : Nat) (w : World) (h2 : 2 ≤ n) (hn : n ≤ 1000) : Calls Tryz.prog 113 #[.int .i64 (n : Int)] w fun e w' => e = .returned (.int .i64 ((splitS n : Nat) : Int)) ∧ w = w' := by
  obtain ⟨e, he, hs, he9⟩ := bitLen_split h2 hn
  have hni : (n : Int) ≤ 1000 := by omega
  have h2i : (2 : Int) ≤ (n : Int) := by omega
  have HLEN : Hid (∀ W, Calls Tryz.prog 144 #[.int .u64 ((n : Int) - 1)] W fun e' w' => e' = .returned (.int .i64 ((e + 1 : Nat) : Int)) ∧ w' = W) := fun W => by
    have h := Tryz.bits_Len ((n : Int) - 1) W (by omega) (by omega)
    rw [show ((n : Int) - 1).toNat = n - 1 from by omega, he] at h
    exact h
  rw [hs]
  clear hs he
  have hcase : e = 0 ∨ e = 1 ∨ e = 2 ∨ e = 3 ∨ e = 4 ∨ e = 5 ∨ e = 6 ∨ e = 7 ∨ e = 8 ∨ e = 9 := by omega
  clear he9
  rcases hcase with rfl | rfl | rfl | rfl | rfl | rfl | rfl | rfl | rfl | rfl
  all_goals
    go_enter Tryz.func113, Tryz.ntmps113
    go_wp2_with (go_at_call 144; refine (HLEN.out _).mono ?_; rintro e1 w1 ⟨rfl, rfl⟩)
    go_ret
    exact ⟨rfl, rfl⟩
end Go.Proofs.YtinpiodfpnbllaaGreatDoor

/- The reference's Split. -/
namespace Go.Proofs.YtinpiodfpnbllaaGreatDoor
open Go.RowKit
set_option linter.unusedVariables false

end Go.Proofs.YtinpiodfpnbllaaGreatDoor

/- The reference's root of a list. -/
namespace Go.Proofs.YtinpiodfpnbllaaGreatDoor
open Go.RowKit
set_option linter.unusedVariables false
attribute [local go_sem] run_storeCells_key run_storeCells_new

theorem KR.first {w : World} {A : Option Addr} {c : Nat} {k : List UInt8} (h : KR w A c [k]) : ∃ b off, A = some ⟨b, off, none⟩ ∧ b < w.heap.size ∧ w.rangeAt b off (cellsB k) := by
  obtain ⟨b, off, e, hb, hr⟩ := h.at_ (i := 0) (by simp)
  rw [Nat.zero_mul, Nat.add_zero] at hr
  exact ⟨b, off, e, hb, hr⟩

end Go.Proofs.YtinpiodfpnbllaaGreatDoor

/- The program's root of a list. -/
namespace Go.Proofs.YtinpiodfpnbllaaGreatDoor
open Go.RowKit
set_option linter.unusedVariables false
attribute [local go_sem] run_storeCells_key run_storeCells_new

set_option maxHeartbeats 1000000 in
set_option maxRecDepth 100000 in
theorem rootFold_one (k : List UInt8) (A : Option Addr) (c : Nat) (w : World) (h : KR w A c [k]) : Calls Tryz.prog 93 #[.slice A 1 c, .func (.func 140) #[] #[], .func (.func 141) #[] #[]] w fun e w' => e = .returned (.agg (cellsB (rootS [k])).toArray) ∧ Below w.heap.size w w' := by
  have hk : k.length = 16 := h.2 k (by simp)
  obtain ⟨b, off, rfl, hb, hr⟩ := h.first
  have HK := Lib.hid hk
  have HZ := Lib.hid zero16
  have b0 := alloc_bel w (.cells (cellsB zeroK).toArray 24)
  have B0 := Lib.hid (Blk.new w 24 (cellsB zeroK).toArray)
  have HR := Lib.hid (range_below hr b0)
  have HD : Hid (∀ W, Calls Tryz.prog 140 #[.agg (cellsB k).toArray] W fun e w' => e = .returned (.agg (cellsB (rootS [k])).toArray) ∧ Below W.heap.size W w') := fun W => by rw [rootS_one]; exact leafHash_any k W hk
  have HDL : Hid ((rootS [k]).length = 16) := rootS_length _
  generalize rootS [k] = d at HD HDL
  have hdc : (cellsB d).length = 16 := by rw [cellsB_length, HDL.out]
  have hall := all16 d
  clear hk hr h
  go_enter Tryz.func93, Tryz.ntmps93
  go_wp2_with (first
    | (rw [HZ.out]; refine wpList_load_mid rfl 24 (.tmp 13) rfl b off rfl (cellsB k) _ HR.out under_key rfl (key_info HK.out) ?_)
    | (go_at_call 140; refine (HD.out _).mono ?_; rintro e w2 ⟨rfl, hb2⟩; have b2 := bel_on b0 hb2; have Q2 := B0.out.below' hb2; have hr2 : (rowAt w2 w.heap.size).size = 16 := (by rw [Q2.row]; rfl); have hf2 := Q2.free; have HQ2 := Lib.hid Q2; clear Q2))
  exact bodyPost_ret (results_cell_row rfl _ _ w.heap.size _ _ (0, 0) _ rfl (HQ2.out.setRow (cellsB d).toArray) under_key rfl (cellsB_size _ HDL.out)) rfl ⟨rfl, below_setRow b2 (Nat.le_refl _) _⟩

set_option maxHeartbeats 2000000 in
set_option maxRecDepth 100000 in
theorem rootFold_any (n : Nat) : ∀ (ks : List (List UInt8)) (A : Option Addr) (c : Nat) (w : World), ks.length = n → 1 ≤ n → n ≤ 1000 → KR w A c ks → Calls Tryz.prog 93 #[.slice A n c, .func (.func 140) #[] #[], .func (.func 141) #[] #[]] w fun e w' => e = .returned (.agg (cellsB (rootS ks)).toArray) ∧ Below w.heap.size w w' := by
  induction n using Nat.strongRecOn with
  | _ n ih =>
    intro ks A c w hn h1n hbig h
    rcases Nat.lt_or_ge n 2 with h2 | h2
    · obtain rfl : n = 1 := by omega
      obtain ⟨k, rfl⟩ := List.length_eq_one_iff.1 hn
      exact rootFold_one k A c w h
    have hs1 := splitS_pos n
    have hs2 := splitS_lt h2
    have hcl : n ≤ c := by have := Rd.le h.1; omega
    have hni : (2 : Int) ≤ (n : Int) := by omega
    have hnb : (n : Int) ≤ 1000 := by omega
    have hne0 : ¬ (n : Int) = 0 := by omega
    have hne1 : ¬ (n : Int) = 1 := by omega
    have HSP : Hid (∀ W, Calls Tryz.prog 113 #[.int .i64 (n : Int)] W fun e w' => e = .returned (.int .i64 ((splitS n : Nat) : Int)) ∧ W = w') := fun W => split_any n W h2 hbig
    have HNODE : Hid (rootS ks = digS (nodeT (rootS (ks.take (splitS n))) (rootS (ks.drop (splitS n))))) := by have := rootS_node (l := ks) (by omega); rw [hn] at this; exact this
    have HLO : Hid (∀ W, Below w.heap.size w W → Calls Tryz.prog 93 #[.slice A (splitS n) c, .func (.func 140) #[] #[], .func (.func 141) #[] #[]] W fun e w' => e = .returned (.agg (cellsB (rootS (ks.take (splitS n)))).toArray) ∧ Below W.heap.size W w') := fun W hW => ih (splitS n) hs2 _ A c W (by rw [List.length_take]; omega) (by omega) (by omega) ((h.below hW).take _ (by omega))
    have HHI : Hid (∀ W, Below w.heap.size w W → Calls Tryz.prog 93 #[.slice (dropK A (splitS n) c) (n - splitS n) (c - splitS n), .func (.func 140) #[] #[], .func (.func 141) #[] #[]] W fun e w' => e = .returned (.agg (cellsB (rootS (ks.drop (splitS n)))).toArray) ∧ Below W.heap.size W w') := fun W hW => ih (n - splitS n) (by omega) _ _ _ W (by rw [List.length_drop]; omega) (by omega) (by omega) ((h.below hW).drop _ (by omega))
    have hL1 := rootS_length (ks.take (splitS n))
    have hL2 := rootS_length (ks.drop (splitS n))
    have hsl1 := fun W => slice_keys_to W A n c (splitS n) (by omega)
    have hsl2 := fun W => slice_keys_from W A n c (splitS n) (by omega)
    generalize splitS n = k at HSP HNODE HLO HHI hL1 hL2 hsl1 hsl2 hs1 hs2
    generalize rootS (ks.take k) = r1 at HNODE HLO hL1
    generalize rootS (ks.drop k) = r2 at HNODE HHI hL2
    have HD : Hid (∀ W, Calls Tryz.prog 141 #[.agg (cellsB r1).toArray, .agg (cellsB r2).toArray] W fun e w' => e = .returned (.agg (cellsB (digS (nodeT r1 r2))).toArray) ∧ Below W.heap.size W w') := fun W => nodeHash_any r1 r2 W hL1 hL2
    have HDL : Hid ((digS (nodeT r1 r2)).length = 16) := digS_length _
    generalize digS (nodeT r1 r2) = d at HD HDL HNODE
    have HZ := Lib.hid zero16
    have b0 := alloc_bel w (.cells (cellsB zeroK).toArray 24)
    have B0 := Lib.hid (Blk.new w 24 (cellsB zeroK).toArray)
    clear ih h hn hbig hL1 hL2
    go_enter Tryz.func93, Tryz.ntmps93
    go_wp2_with (go_at_call 113; rw [HZ.out]; refine (HSP.out _).mono ?_; rintro e w1 ⟨rfl, rfl⟩)
    obtain ⟨W0, hW0⟩ : ∃ W : World, W = w.alloc (.cells (cellsB zeroK).toArray 24) := ⟨_, rfl⟩
    rw [← hW0] at b0 B0 ⊢
    clear hW0
    refine wp_region_noPanic ?_
    refine wp_region_held_drew (S := fun _ => True) (by kernel_rfl) trivial (fun hS => ?_)
    refine hd_take 0 (.func (.func 141) #[] #[]) rfl rfl (by kernel_rfl) (by kernel_rfl) (by kernel_rfl) (fun _ _ _ h => h) (fun w _ => by go_simp) hS ?_
    refine hd_take 1 (.slice A n c) rfl rfl (by kernel_rfl) (by kernel_rfl) (by kernel_rfl) (fun _ _ _ h => h) (fun w _ => by go_simp) hS ?_
    refine hd_take 2 (.int .i64 (k : Int)) rfl rfl (by kernel_rfl) (by kernel_rfl) (by kernel_rfl) (fun _ _ _ h => h) (fun w _ => by go_simp) hS ?_
    refine hd_take 4 (.func (.func 140) #[] #[]) rfl rfl (by kernel_rfl) (by kernel_rfl) (by kernel_rfl) (fun _ _ _ h => h) (fun w _ => by go_simp) hS ?_
    refine hd_take 5 (.func (.func 141) #[] #[]) rfl rfl (by kernel_rfl) (by kernel_rfl) (by kernel_rfl) (fun _ _ _ h => h) (fun w _ => by go_simp) hS ?_
    refine hd_take 7 (.slice A n c) rfl rfl (by kernel_rfl) (by kernel_rfl) (by kernel_rfl) (fun _ _ _ h => h) (fun w _ => by go_simp) hS ?_
    refine hd_take 8 (.int .i64 (k : Int)) rfl rfl (by kernel_rfl) (by kernel_rfl) (by kernel_rfl) (fun _ _ _ h => h) (fun w _ => by go_simp) hS ?_
    refine hd_take 10 (.func (.func 140) #[] #[]) rfl rfl (by kernel_rfl) (by kernel_rfl) (by kernel_rfl) (fun _ _ _ h => h) (fun w _ => by go_simp) hS ?_
    refine hd_take 11 (.func (.func 141) #[] #[]) rfl rfl (by kernel_rfl) (by kernel_rfl) (by kernel_rfl) (fun _ _ _ h => h) (fun w _ => by go_simp) hS ?_
    simp only [List.getElem_toArray, List.getElem_cons_succ, List.getElem_cons_zero, Act.put, List.setIfInBounds_toArray, List.set_cons_zero, List.set_cons_succ]
    refine hd_take 3 (.slice A k c) rfl rfl (by kernel_rfl) (by kernel_rfl) (by kernel_rfl) (fun _ _ _ h => h) (fun w _ => by go_simp) hS ?_
    refine hd_take 9 (.slice (dropK A k c) (n - k) (c - k)) rfl rfl (by kernel_rfl) (by kernel_rfl) (by kernel_rfl) (fun _ _ _ h => h) (fun w _ => by go_simp) hS ?_
    simp only [List.getElem_toArray, List.getElem_cons_succ, List.getElem_cons_zero, Act.put, List.setIfInBounds_toArray, List.set_cons_zero, List.set_cons_succ]
    refine hd_calls 6 93 #[.slice A k c, .func (.func 140) #[] #[], .func (.func 141) #[] #[]] rfl rfl (by kernel_rfl) (by go_simp) ((HLO.out _ b0.drew).mono ?_)
    rintro e w3 ⟨rfl, hb3⟩
    have b3 := bel_on b0.drew hb3
    refine ⟨_, rfl, trivial, ?_⟩
    refine hd_calls 12 93 #[.slice (dropK A k c) (n - k) (c - k), .func (.func 140) #[] #[], .func (.func 141) #[] #[]] rfl rfl (by kernel_rfl) (by go_simp) ((HHI.out _ b3).mono ?_)
    rintro e w4 ⟨rfl, hb4⟩
    have b4 := bel_on b3 hb4
    refine ⟨_, rfl, trivial, ?_⟩
    simp only [List.getElem_toArray, List.getElem_cons_succ, List.getElem_cons_zero, Act.put, List.setIfInBounds_toArray, List.set_cons_zero, List.set_cons_succ]
    refine hd_calls 13 141 #[.agg (cellsB r1).toArray, .agg (cellsB r2).toArray] rfl rfl (by kernel_rfl) (by go_simp) ((HD.out _).mono ?_)
    rintro e w6 ⟨rfl, hb6⟩
    have b6 := bel_on b4 hb6
    refine ⟨_, rfl, trivial, ?_⟩
    simp only [List.getElem_toArray, List.getElem_cons_succ, List.getElem_cons_zero, Act.put, List.setIfInBounds_toArray, List.set_cons_zero, List.set_cons_succ]
    have Q6 := ((B0.out.drew.below' hb3).below' hb4).below' hb6
    refine hd_store 14 w.heap.size (cellsB d).toArray _ _ _ rfl rfl rfl (by kernel_rfl) rfl rfl Q6 (cellsB_size _ HDL.out) (by rw [List.size_toArray, List.size_toArray, cellsB_length, cellsB_length, HDL.out]; rfl) (all_oneCell_toArray (cells_one d)) trivial ?_
    refine wpAnyH_done (by kernel_rfl) (NoPanic.normal ?_) _
    simp only [List.getElem_toArray, List.getElem_cons_succ, List.getElem_cons_zero, Act.put, List.setIfInBounds_toArray, List.set_cons_zero, List.set_cons_succ]
    go_wp2_with fail
    exact bodyPost_ret (results_cell_row rfl _ _ w.heap.size _ _ (0, 0) _ rfl (Q6.setRow (cellsB d).toArray) under_key rfl (cellsB_size _ HDL.out)) rfl ⟨by rw [HNODE.out], below_setRow b6 (Nat.le_refl _) _⟩
end Go.Proofs.YtinpiodfpnbllaaGreatDoor

/- Root: the program's and the reference's. -/
namespace Go.Proofs.YtinpiodfpnbllaaGreatDoor
open Go.RowKit
set_option linter.unusedVariables false
attribute [local go_sem] run_storeCells_key run_storeCells_new

/-- A root, or the error. -/
def rtS (ks : List (List UInt8)) : List UInt8 × Int := if 128 < ks.length then (zeroK, 4) else (rootS ks, 0)
theorem rtS_length (ks : List (List UInt8)) : (rtS ks).1.length = 16 := by
  unfold rtS
  split
  · rfl
  · exact rootS_length ks

set_option maxHeartbeats 1000000 in
set_option maxRecDepth 100000 in
theorem root_any (ks : List (List UInt8)) (A : Option Addr) (c : Nat) (w : World) {n : Nat} (hn : ks.length = n) (hb : n ≤ 1000) (h : KR w A c ks) : Calls Tryz.prog 79 #[.slice A n c] w fun e w' => e = .returned (.agg (cellsB (rootS ks)).toArray) ∧ Below w.heap.size w w' := by
  have HZ := Lib.hid zero16
  have b0 := alloc_bel w (.cells (cellsB zeroK).toArray 24)
  have B0 := Lib.hid (Blk.new w 24 (cellsB zeroK).toArray)
  have HDL : Hid ((rootS ks).length = 16) := rootS_length _
  have hni : (n : Int) ≤ 1000 := by omega
  by_cases h0 : n = 0
  · subst h0
    obtain rfl : ks = [] := List.eq_nil_of_length_eq_zero hn
    have HD : Hid (∀ W, Calls Tryz.prog 121 #[.slice none 0 0] W fun e w' => e = .returned (.agg (cellsB (rootS [])).toArray) ∧ Below W.heap.size W w') := fun W => by rw [rootS_nil]; exact digest_any [] none 0 W rfl (BR.nil W) (by omega)
    generalize rootS [] = d at HD HDL
    have hdc : (cellsB d).length = 16 := by rw [cellsB_length, HDL.out]
    have hall := all16 d
    clear hn hb h
    go_enter Tryz.func79, Tryz.ntmps79
    go_wp2_with (go_at_call 121; rw [HZ.out]; refine (HD.out _).mono ?_; rintro e w1 ⟨rfl, hb1⟩; have b1 := bel_on b0 hb1; have Q1 := B0.out.below' hb1; have hr1 : (rowAt w1 w.heap.size).size = 16 := (by rw [Q1.row]; rfl); have hf1 := Q1.free; have HQ1 := Lib.hid Q1; clear Q1)
    exact bodyPost_ret (results_cell_row rfl _ _ w.heap.size _ _ (0, 0) _ rfl (HQ1.out.setRow (cellsB d).toArray) under_key rfl (cellsB_size _ HDL.out)) rfl ⟨rfl, below_setRow b1 (Nat.le_refl _) _⟩
  · have hn0 : ¬ (n : Int) = 0 := by omega
    have HD : Hid (∀ W, Below w.heap.size w W → Calls Tryz.prog 93 #[.slice A n c, .func (.func 140) #[] #[], .func (.func 141) #[] #[]] W fun e w' => e = .returned (.agg (cellsB (rootS ks)).toArray) ∧ Below W.heap.size W w') := fun W hW => rootFold_any n ks A c W hn (by omega) hb (h.below hW)
    generalize rootS ks = d at HD HDL
    have hdc : (cellsB d).length = 16 := by rw [cellsB_length, HDL.out]
    have hall := all16 d
    clear hn hb h h0
    go_enter Tryz.func79, Tryz.ntmps79
    go_wp2_with (go_at_call 93; rw [HZ.out]; refine (HD.out _ b0).mono ?_; rintro e w1 ⟨rfl, hb1⟩; have b1 := bel_on b0 hb1; have Q1 := B0.out.below' hb1; have hr1 : (rowAt w1 w.heap.size).size = 16 := (by rw [Q1.row]; rfl); have hf1 := Q1.free; have HQ1 := Lib.hid Q1; clear Q1)
    exact bodyPost_ret (results_cell_row rfl _ _ w.heap.size _ _ (0, 0) _ rfl (HQ1.out.setRow (cellsB d).toArray) under_key rfl (cellsB_size _ HDL.out)) rfl ⟨rfl, below_setRow b1 (Nat.le_refl _) _⟩

set_option maxHeartbeats 1000000 in
set_option maxRecDepth 100000 in
theorem Root_any (ks : List (List UInt8)) (A : Option Addr) (c : Nat) (w : World) {n : Nat} (hn : ks.length = n) (h : KR w A c ks) : Calls Tryz.prog 27 #[.slice A n c] w fun e w' => e = .returned (.tuple #[.agg (cellsB (rtS ks).1).toArray, .int .i64 (rtS ks).2]) ∧ Below w.heap.size w w' := by
  have HZ := Lib.hid zero16
  have hnl : (n : Int) ≤ 140737488351232 := by have := h.len; omega
  have b0 := alloc_bel w (.cells (cellsB zeroK).toArray 24)
  have B0 := Lib.hid (Blk.new w 24 (cellsB zeroK).toArray)
  have HDL : Hid ((rootS ks).length = 16) := rootS_length _
  by_cases hbig : 128 < n
  · have HS : Hid (rtS ks = (zeroK, 4)) := by unfold Hid rtS; rw [if_pos (by omega)]
    have hbi : (128 : Int) < n := by omega
    have hdc : (cellsB zeroK).length = 16 := rfl
    have hall := all16 zeroK
    have hr1 : (rowAt (w.alloc (.cells (cellsB zeroK).toArray 24)) w.heap.size).size = 16 := by rw [B0.out.row]; rfl
    have hf1 := B0.out.free
    clear hn h hbig
    go_enter Tryz.func27, Tryz.ntmps27
    go_wp2_with (rw [HZ.out]; refine wpList_buildTo rfl 24 #[] rfl (some 7) rfl (cellsB zeroK).toArray (by kernel_rfl) ?_)
    refine bodyPost_ret (v := .tuple #[.agg (cellsB zeroK).toArray, .int .i64 4]) ?_ rfl ⟨by rw [HS.out], below_setRow b0 (Nat.le_refl _) _⟩
    rw [results_cell_tmp Tryz.results27]
    simp [asAddr, Result.andThen, run_loadVar_row _ w.heap.size _ _ _ (0, 0) _ (B0.out.setRow (cellsB zeroK).toArray) under_key rfl (cellsB_size _ rfl)]
  · have HS : Hid (rtS ks = (rootS ks, 0)) := by unfold Hid rtS; rw [if_neg (by omega)]
    have hbi : (n : Int) ≤ 128 := by omega
    have HD : Hid (∀ W, Below w.heap.size w W → Calls Tryz.prog 79 #[.slice A n c] W fun e w' => e = .returned (.agg (cellsB (rootS ks)).toArray) ∧ Below W.heap.size W w') := fun W hW => root_any ks A c W hn (by omega) (h.below hW)
    generalize rootS ks = d at HD HDL HS
    have hdc : (cellsB d).length = 16 := by rw [cellsB_length, HDL.out]
    have hall := all16 d
    clear hn h hbig
    go_enter Tryz.func27, Tryz.ntmps27
    go_wp2_with (go_at_call 79; rw [HZ.out]; refine (HD.out _ b0).mono ?_; rintro e w1 ⟨rfl, hb1⟩; have b1 := bel_on b0 hb1; have Q1 := B0.out.below' hb1; have hr1 : (rowAt w1 w.heap.size).size = 16 := (by rw [Q1.row]; rfl); have hf1 := Q1.free; have HQ1 := Lib.hid Q1; clear Q1)
    refine bodyPost_ret (v := .tuple #[.agg (cellsB d).toArray, .int .i64 0]) ?_ rfl ⟨by rw [HS.out], below_setRow b1 (Nat.le_refl _) _⟩
    rw [results_cell_tmp Tryz.results27]
    simp [asAddr, Result.andThen, run_loadVar_row _ w.heap.size _ _ _ (0, 0) _ (HQ1.out.setRow (cellsB d).toArray) under_key rfl (cellsB_size _ HDL.out)]

end Go.Proofs.YtinpiodfpnbllaaGreatDoor

/- The reference's path. -/
namespace Go.Proofs.YtinpiodfpnbllaaGreatDoor
open Go.RowKit
set_option linter.unusedVariables false

theorem pathS_le : ∀ (l : List (List UInt8)) (i : Nat), (pathS l i).length ≤ l.length := by
  suffices h : ∀ n (l : List (List UInt8)) i, l.length = n → (pathS l i).length ≤ l.length from fun l i => h _ l i rfl
  intro n
  induction n using Nat.strongRecOn with
  | _ n ih =>
    intro l i hn
    rcases Nat.lt_or_ge l.length 2 with h | h
    · rw [pathS_one (by omega)]; exact Nat.zero_le _
    · have h1 := splitS_lt h
      have h2 := splitS_pos l.length
      by_cases hi : i < splitS l.length
      · rw [pathS_low h hi, List.length_append]
        have := ih (splitS l.length) (by omega) (l.take (splitS l.length)) i (by rw [List.length_take]; omega)
        rw [List.length_take] at this
        simp only [List.length_cons, List.length_nil]
        omega
      · rw [pathS_high h hi, List.length_append]
        have := ih (l.length - splitS l.length) (by omega) (l.drop (splitS l.length)) (i - splitS l.length) (by rw [List.length_drop])
        rw [List.length_drop] at this
        simp only [List.length_cons, List.length_nil]
        omega

end Go.Proofs.YtinpiodfpnbllaaGreatDoor

/- The program's path. -/
namespace Go.Proofs.YtinpiodfpnbllaaGreatDoor
open Go.RowKit
set_option linter.unusedVariables false

theorem Keys16.snoc {ks : List (List UInt8)} (h : Keys16 ks) {r : List UInt8} (hr : r.length = 16) : Keys16 (ks ++ [r]) := fun k hk => by
  rcases List.mem_append.1 hk with hk | hk
  · exact h k hk
  · rw [List.mem_singleton.1 hk]; exact hr

set_option maxHeartbeats 4000000 in
set_option maxRecDepth 100000 in
theorem prove_any (ks : List (List UInt8)) (i : Nat) (A : Option Addr) (c : Nat) (w : World) {n : Nat} (hn : ks.length = n) (hi : i < n) (hbig : n ≤ 1000) (h : KR w A c ks) :
    Calls Tryz.prog 139 #[.slice A n c, .int .i64 (i : Int)] w fun e w' => (∃ A' c', e = .returned (.slice A' (pathS ks i).length c') ∧ OK16 w.heap.size w' A' c' (pathS ks i)) ∧ Below w.heap.size w w' := by
  obtain ⟨P0, hP0⟩ : ∃ P, P = pathS ks i := ⟨_, rfl⟩
  have HN := Lib.hid hn
  have HI := Lib.hid hi
  have HH := Lib.hid h
  have HP0 := Lib.hid hP0
  have HBG := Lib.hid hbig
  rw [← hP0]
  clear hP0 hn h hi hbig
  go_enter Tryz.func139, Tryz.ntmps139
  go_wp2_with fail
  go_loopw [0, 1, 5] (fun v0 v1 v5 wr => ∃ (ls : List (List UInt8)) (m : Nat) (j : Nat) (B : Option Addr) (d : Nat) (os : List (List UInt8)) (q : Nat) (O : Option Addr) (co : Nat), v0 = .slice B m d ∧ v1 = .int .i64 (j : Int) ∧ v5 = .slice O q co ∧ ls.length = m ∧ os.length = q ∧ j < m ∧ m + q ≤ n ∧ KR w B d ls ∧ OK16 w.heap.size wr O co os ∧ Keys16 os ∧ P0 = pathS ls j ++ os.reverse ∧ Below w.heap.size w wr) (fun v0 _ _ _ => lenV v0)
  case atStart => exact ⟨ks, n, i, A, c, [], 0, none, 0, rfl, rfl, rfl, HN.out, rfl, HI.out, by omega, HH.out, OK16.nil _ _, (by intro k hk; cases hk), (by rw [HP0.out]; simp), Below.refl _ _⟩
  case round =>
    obtain ⟨ls, m, j, B, d, os, q, O, co, rfl, rfl, rfl, hls, hos, hj, hmq, hkr, hok, hk16, hP, hb⟩ := hrel
    have hbig := HBG.out
    have HB := Lib.hid hb
    have HOK := Lib.hid hok
    have HOS := Lib.hid hos
    have HKK := Lib.hid hk16
    by_cases h2 : 2 ≤ m
    · have hs1 := splitS_pos m
      have hs2 := splitS_lt h2
      have hcl : m ≤ d := by have := Rd.le hkr.1; omega
      have hni : (2 : Int) ≤ (m : Int) := by omega
      have hmb : (m : Int) ≤ 1000 := by omega
      have hgt : (1 : Int) < (m : Int) := by omega
      have HSP : Hid (∀ W, Calls Tryz.prog 113 #[.int .i64 (m : Int)] W fun e w' => e = .returned (.int .i64 ((splitS m : Nat) : Int)) ∧ W = w') := fun W => split_any m W h2 (by omega)
      have hsl1 := fun W => slice_keys_to W B m d (splitS m) (by omega)
      have hsl2 := fun W => slice_keys_from W B m d (splitS m) (by omega)
      by_cases hk : j < splitS m
      · have hjk : (j : Int) < ((splitS m : Nat) : Int) := by omega
        have HPE : Hid (P0 = pathS (ls.take (splitS m)) j ++ (os ++ [rootS (ls.drop (splitS m))]).reverse) := by unfold Hid; have := pathS_low (l := ls) (i := j) (by omega) (by rw [hls]; exact hk); rw [hls] at this; rw [hP, this]; simp
        have HRL : Hid ((rootS (ls.drop (splitS m))).length = 16) := rootS_length _
        have HLS : Hid ((ls.take (splitS m)).length = splitS m) := by unfold Hid; simp only [List.length_take, List.length_drop]; omega
        have HKR : Hid (KR w B d (ls.take (splitS m))) := hkr.take _ (by omega)
        have HRO : Hid (∀ W, Below wr.heap.size wr W → Calls Tryz.prog 79 #[.slice (dropK B (splitS m) d) (m - splitS m) (d - splitS m)] W fun e w' => e = .returned (.agg (cellsB (rootS (ls.drop (splitS m)))).toArray) ∧ Below W.heap.size W w') := fun W hW => root_any _ _ _ W (by rw [List.length_drop]; omega) (by omega) ((hkr.below (bel_on hb hW)).drop _ (by omega))
        generalize rootS (ls.drop (splitS m)) = r at HPE HRL HRO
        generalize ls.take (splitS m) = ls' at HPE HLS HKR
        generalize splitS m = k at *
        clear hP hkr hls hk ls
        go_wp2_with (go_at_call 113; refine (HSP.out _).mono ?_; rintro e w1 ⟨rfl, rfl⟩)
        refine wp_region_noPanic ?_
        refine wp_region_held_drew (S := fun _ => True) (by kernel_rfl) trivial (fun hS => ?_)
        refine hd_take 0 (.slice O q co) rfl rfl (by kernel_rfl) (by kernel_rfl) (by kernel_rfl) (fun _ _ _ h => h) (fun w _ => by go_simp) trivial ?_
        refine hd_take 1 (.slice B m d) rfl rfl (by kernel_rfl) (by kernel_rfl) (by kernel_rfl) (fun _ _ _ h => h) (fun w _ => by go_simp) trivial ?_
        refine hd_take 2 (.int .i64 (k : Int)) rfl rfl (by kernel_rfl) (by kernel_rfl) (by kernel_rfl) (fun _ _ _ h => h) (fun w _ => by go_simp) trivial ?_
        refine hd_take 7 (.slice B m d) rfl rfl (by kernel_rfl) (by kernel_rfl) (by kernel_rfl) (fun _ _ _ h => h) (fun w _ => by go_simp) trivial ?_
        refine hd_take 8 (.int .i64 (k : Int)) rfl rfl (by kernel_rfl) (by kernel_rfl) (by kernel_rfl) (fun _ _ _ h => h) (fun w _ => by go_simp) trivial ?_
        simp only [List.getElem_toArray, List.getElem_cons_succ, List.getElem_cons_zero, Act.put, List.setIfInBounds_toArray, List.set_cons_zero, List.set_cons_succ]
        refine hd_take 3 (.slice (dropK B k d) (m - k) (d - k)) rfl rfl (by kernel_rfl) (by kernel_rfl) (by kernel_rfl) (fun _ _ _ h => h) (fun w _ => by go_simp) trivial ?_
        refine hd_take 9 (.slice B k d) rfl rfl (by kernel_rfl) (by kernel_rfl) (by kernel_rfl) (fun _ _ _ h => h) (fun w _ => by go_simp) trivial ?_
        simp only [List.getElem_toArray, List.getElem_cons_succ, List.getElem_cons_zero, Act.put, List.setIfInBounds_toArray, List.set_cons_zero, List.set_cons_succ]
        refine hd_calls 4 79 #[.slice (dropK B k d) (m - k) (d - k)] rfl rfl (by kernel_rfl) (by go_simp) ((HRO.out _ (Below.refl _ _).drew).mono ?_)
        rintro e w4 ⟨rfl, hb4⟩
        have b4 : Below wr.heap.size wr w4 := bel_on (Below.refl _ _).drew hb4
        have ho4 := HOK.out.below b4
        refine ⟨_, rfl, trivial, ?_⟩
        simp only [List.getElem_toArray, List.getElem_cons_succ, List.getElem_cons_zero, Act.put, List.setIfInBounds_toArray, List.set_cons_zero, List.set_cons_succ]
        have ho5 := ho4.below (alloc_bel w4 (.cells (cellsB r).toArray 24))
        have b5 := b4.alloc b4.size (.cells (cellsB r).toArray 24)
        have hsrc := src_key w4 HRL.out
        have hz5 : w.heap.size ≤ (w4.alloc (.cells (cellsB r).toArray 24)).heap.size := Nat.le_trans HB.out.size b5.size
        refine hd_sole 5 (by kernel_rfl) (op_buildKey r _ HRL.out rfl rfl rfl rfl ⟨trivial, ?_⟩)
        simp only [List.getElem_toArray, List.getElem_cons_succ, List.getElem_cons_zero, Act.put, List.setIfInBounds_toArray, List.set_cons_zero, List.set_cons_succ]
        refine hd_appendK 6 (.tmp 16) (.tmp 21) rfl rfl rfl (by kernel_rfl) w.heap.size O q co os HOS.out rfl ho5 _ 1 1 [r] rfl rfl hsrc (by omega) hz5 ?_
        intro A6 c6 w6 ho6 hb6
        refine ⟨trivial, ?_⟩
        simp only [List.getElem_toArray, List.getElem_cons_succ, List.getElem_cons_zero, Act.put, List.setIfInBounds_toArray, List.set_cons_zero, List.set_cons_succ]
        refine hd_take 10 (.slice A6 (q + 1) c6) rfl rfl (by kernel_rfl) (by kernel_rfl) (by kernel_rfl) (fun _ _ _ h => h) (fun w _ => by go_simp) trivial ?_
        refine hd_take 11 (.slice B k d) rfl rfl (by kernel_rfl) (by kernel_rfl) (by kernel_rfl) (fun _ _ _ h => h) (fun w _ => by go_simp) trivial ?_
        refine wpAnyH_done (by kernel_rfl) (NoPanic.normal ?_) _
        simp only [List.getElem_toArray, List.getElem_cons_succ, List.getElem_cons_zero, Act.put, List.setIfInBounds_toArray, List.set_cons_zero, List.set_cons_succ]
        have HO6 := Lib.hid ho6
        have b6 : Below w.heap.size w w6 := (HB.out.trans (Below.mono b5 HB.out.size)).trans hb6
        clear ho6 ho5 ho4 hsrc
        go_wp2_with fail
        go_roundw
        case rel => exact ⟨_, k, j, B, d, os ++ [r], q + 1, A6, c6, rfl, rfl, rfl, HLS.out, by rw [List.length_append, HOS.out]; rfl, by omega, by omega, HKR.out, HO6.out, HKK.out.snoc HRL.out, HPE.out, b6⟩
        case measure => simp only [lenV]; omega
      · have hjk : ¬ (j : Int) < ((splitS m : Nat) : Int) := by omega
        have hjk2 : ((splitS m : Nat) : Int) ≤ (j : Int) := by omega
        have HPE : Hid (P0 = pathS (ls.drop (splitS m)) (j - splitS m) ++ (os ++ [rootS (ls.take (splitS m))]).reverse) := by unfold Hid; have := pathS_high (l := ls) (i := j) (by omega) (by rw [hls]; exact hk); rw [hls] at this; rw [hP, this]; simp
        have HRL : Hid ((rootS (ls.take (splitS m))).length = 16) := rootS_length _
        have HLS : Hid ((ls.drop (splitS m)).length = m - splitS m) := by unfold Hid; simp only [List.length_take, List.length_drop]; omega
        have HKR : Hid (KR w (dropK B (splitS m) d) (d - splitS m) (ls.drop (splitS m))) := hkr.drop _ (by omega)
        have HRO : Hid (∀ W, Below wr.heap.size wr W → Calls Tryz.prog 79 #[.slice B (splitS m) d] W fun e w' => e = .returned (.agg (cellsB (rootS (ls.take (splitS m)))).toArray) ∧ Below W.heap.size W w') := fun W hW => root_any _ _ _ W (by rw [List.length_take]; omega) (by omega) ((hkr.below (bel_on hb hW)).take _ (by omega))
        generalize rootS (ls.take (splitS m)) = r at HPE HRL HRO
        generalize ls.drop (splitS m) = ls' at HPE HLS HKR
        generalize splitS m = k at *
        clear hP hkr hls hk ls
        go_wp2_with (go_at_call 113; refine (HSP.out _).mono ?_; rintro e w1 ⟨rfl, rfl⟩)
        refine wp_region_noPanic ?_
        refine wp_region_held_drew (S := fun _ => True) (by kernel_rfl) trivial (fun hS => ?_)
        refine hd_take 0 (.slice O q co) rfl rfl (by kernel_rfl) (by kernel_rfl) (by kernel_rfl) (fun _ _ _ h => h) (fun w _ => by go_simp) trivial ?_
        refine hd_take 1 (.slice B m d) rfl rfl (by kernel_rfl) (by kernel_rfl) (by kernel_rfl) (fun _ _ _ h => h) (fun w _ => by go_simp) trivial ?_
        refine hd_take 2 (.int .i64 (k : Int)) rfl rfl (by kernel_rfl) (by kernel_rfl) (by kernel_rfl) (fun _ _ _ h => h) (fun w _ => by go_simp) trivial ?_
        refine hd_take 7 (.slice B m d) rfl rfl (by kernel_rfl) (by kernel_rfl) (by kernel_rfl) (fun _ _ _ h => h) (fun w _ => by go_simp) trivial ?_
        refine hd_take 8 (.int .i64 (k : Int)) rfl rfl (by kernel_rfl) (by kernel_rfl) (by kernel_rfl) (fun _ _ _ h => h) (fun w _ => by go_simp) trivial ?_
        refine hd_take 10 (.int .i64 (j : Int)) rfl rfl (by kernel_rfl) (by kernel_rfl) (by kernel_rfl) (fun _ _ _ h => h) (fun w _ => by go_simp) trivial ?_
        refine hd_take 11 (.int .i64 (k : Int)) rfl rfl (by kernel_rfl) (by kernel_rfl) (by kernel_rfl) (fun _ _ _ h => h) (fun w _ => by go_simp) trivial ?_
        simp only [List.getElem_toArray, List.getElem_cons_succ, List.getElem_cons_zero, Act.put, List.setIfInBounds_toArray, List.set_cons_zero, List.set_cons_succ]
        refine hd_take 3 (.slice B k d) rfl rfl (by kernel_rfl) (by kernel_rfl) (by kernel_rfl) (fun _ _ _ h => h) (fun w _ => by go_simp) trivial ?_
        refine hd_take 9 (.slice (dropK B k d) (m - k) (d - k)) rfl rfl (by kernel_rfl) (by kernel_rfl) (by kernel_rfl) (fun _ _ _ h => h) (fun w _ => by go_simp) trivial ?_
        refine hd_take 12 (.int .i64 ((j : Int) - (k : Int))) rfl rfl (by kernel_rfl) (by kernel_rfl) (by kernel_rfl) (fun _ _ _ h => h) (fun w _ => by go_simp; rw [IntKind.wrap_i64]; omega) trivial ?_
        simp only [List.getElem_toArray, List.getElem_cons_succ, List.getElem_cons_zero, Act.put, List.setIfInBounds_toArray, List.set_cons_zero, List.set_cons_succ]
        refine hd_calls 4 79 #[.slice B k d] rfl rfl (by kernel_rfl) (by go_simp) ((HRO.out _ (Below.refl _ _).drew).mono ?_)
        rintro e w4 ⟨rfl, hb4⟩
        have b4 : Below wr.heap.size wr w4 := bel_on (Below.refl _ _).drew hb4
        have ho4 := HOK.out.below b4
        refine ⟨_, rfl, trivial, ?_⟩
        simp only [List.getElem_toArray, List.getElem_cons_succ, List.getElem_cons_zero, Act.put, List.setIfInBounds_toArray, List.set_cons_zero, List.set_cons_succ]
        have ho5 := ho4.below (alloc_bel w4 (.cells (cellsB r).toArray 24))
        have b5 := b4.alloc b4.size (.cells (cellsB r).toArray 24)
        have hsrc := src_key w4 HRL.out
        have hz5 : w.heap.size ≤ (w4.alloc (.cells (cellsB r).toArray 24)).heap.size := Nat.le_trans HB.out.size b5.size
        refine hd_sole 5 (by kernel_rfl) (op_buildKey r _ HRL.out rfl rfl rfl rfl ⟨trivial, ?_⟩)
        simp only [List.getElem_toArray, List.getElem_cons_succ, List.getElem_cons_zero, Act.put, List.setIfInBounds_toArray, List.set_cons_zero, List.set_cons_succ]
        refine hd_appendK 6 (.tmp 26) (.tmp 31) rfl rfl rfl (by kernel_rfl) w.heap.size O q co os HOS.out rfl ho5 _ 1 1 [r] rfl rfl hsrc (by omega) hz5 ?_
        intro A6 c6 w6 ho6 hb6
        refine ⟨trivial, ?_⟩
        simp only [List.getElem_toArray, List.getElem_cons_succ, List.getElem_cons_zero, Act.put, List.setIfInBounds_toArray, List.set_cons_zero, List.set_cons_succ]
        refine hd_take 13 (.slice A6 (q + 1) c6) rfl rfl (by kernel_rfl) (by kernel_rfl) (by kernel_rfl) (fun _ _ _ h => h) (fun w _ => by go_simp) trivial ?_
        refine hd_take 14 (.slice (dropK B k d) (m - k) (d - k)) rfl rfl (by kernel_rfl) (by kernel_rfl) (by kernel_rfl) (fun _ _ _ h => h) (fun w _ => by go_simp) trivial ?_
        refine hd_take 15 (.int .i64 ((j : Int) - (k : Int))) rfl rfl (by kernel_rfl) (by kernel_rfl) (by kernel_rfl) (fun _ _ _ h => h) (fun w _ => by go_simp) trivial ?_
        refine wpAnyH_done (by kernel_rfl) (NoPanic.normal ?_) _
        simp only [List.getElem_toArray, List.getElem_cons_succ, List.getElem_cons_zero, Act.put, List.setIfInBounds_toArray, List.set_cons_zero, List.set_cons_succ]
        have HO6 := Lib.hid ho6
        have b6 : Below w.heap.size w w6 := (HB.out.trans (Below.mono b5 HB.out.size)).trans hb6
        clear ho6 ho5 ho4 hsrc
        go_wp2_with fail
        go_roundw
        case rel => exact ⟨_, m - k, j - k, _, _, os ++ [r], q + 1, A6, c6, rfl, by rw [show ((j - k : Nat) : Int) = (j : Int) - (k : Int) from by omega], rfl, HLS.out, by rw [List.length_append, HOS.out]; rfl, by omega, by omega, HKR.out, HO6.out, HKK.out.snoc HRL.out, HPE.out, b6⟩
        case measure => simp only [lenV]; omega
    · obtain rfl : m = 1 := by omega
      have hpe : P0 = os.reverse := by rw [hP, pathS_one (by omega)]; rfl
      have hql : os.reverse.length = q := by rw [List.length_reverse, hos]
      have HRV : Hid (∀ W, Below wr.heap.size wr W → Calls Tryz.prog 114 #[.slice O q co] W fun e w' => e = .returned (.tuple #[]) ∧ OK16 w.heap.size w' O co os.reverse ∧ Below w.heap.size W w') := fun W hW => reverse_any os O co W hos (hok.below hW) hk16 (by omega)
      have HPE := Lib.hid hpe
      have HQL : Hid (P0.length = q) := by unfold Hid; rw [hpe]; exact hql
      clear hP hkr hls hok hk16 hos ls hj HOK HOS HKK hpe hql
      generalize os.reverse = rs at HRV HPE
      go_wp2_with (go_at_call 114; refine (HRV.out _ (Below.refl _ _)).mono ?_; rintro e w2 ⟨rfl, ho2, hb2⟩; have HO2 := Lib.hid ho2; clear ho2)
      go_ret
      exact ⟨⟨O, co, by show _ = Ending.returned (.slice O P0.length co); rw [HQL.out]; rfl, by rw [HPE.out]; exact HO2.out⟩, hb.trans hb2⟩
end Go.Proofs.YtinpiodfpnbllaaGreatDoor

/- The reference's part of a list, for a growth. -/
namespace Go.Proofs.YtinpiodfpnbllaaGreatDoor
open Go.RowKit
set_option linter.unusedVariables false

theorem partS_le : ∀ (l : List (List UInt8)) (m : Nat) (wh : Bool), (partS l m wh).length ≤ l.length + 1 := by
  suffices h : ∀ n (l : List (List UInt8)) m wh, l.length = n → (partS l m wh).length ≤ l.length + 1 from fun l m wh => h _ l m wh rfl
  intro n
  induction n using Nat.strongRecOn with
  | _ n ih =>
    intro l m wh hn
    rw [partS]
    split
    · split <;> simp
    · rename_i h
      have h1 := splitS_lt (n := l.length) (by omega)
      have h2 := splitS_pos l.length
      split
      · rw [List.length_append]
        have := ih (splitS l.length) (by omega) (l.take (splitS l.length)) m wh (by rw [List.length_take]; omega)
        rw [List.length_take] at this
        simp only [List.length_cons, List.length_nil]
        omega
      · rw [List.length_append]
        have := ih (l.length - splitS l.length) (by omega) (l.drop (splitS l.length)) (m - splitS l.length) false (by rw [List.length_drop])
        rw [List.length_drop] at this
        simp only [List.length_cons, List.length_nil]
        omega
theorem wpList_buildKey (w : World) {ops : Array Oper} {rest : List Oper} {o : Oper} {a : Act} {Q : Exit → Act → World → Prop} (hg : o.guard = none) (k : List UInt8) (x : Operand) (hk : k.length = 16) (ho : o.op = .buildSlice 25 1 #[(0, x)]) (hx : a.eval x = .agg (cellsB k).toArray)
    (h : wpList Tryz.prog ops Q rest (a.put o.dst (.slice (some ⟨w.heap.size, 0, none⟩) 1 1)) (w.alloc (.cells (cellsB k).toArray 24))) : wpList Tryz.prog ops Q (o :: rest) a w := by
  refine wpList_plain hg fun K hK => ?_
  unfold Oper.wp execOp
  simp only [ho, List.map_toArray, List.map_cons, List.map_nil, hx, Sem.run_bind, run_build_key w k hk, Result.andThen_ok]
  exact hK _ _ h
theorem OK16.lit (B : Nat) (w : World) (k : List UInt8) (hk : k.length = 16) (hB : B ≤ w.heap.size) : OK16 B (w.alloc (.cells (cellsB k).toArray 24)) (some ⟨w.heap.size, 0, none⟩) 1 [k] := by
  have h := World.ownsRow_lit (e := 24) (size := 16) w (cellsB k).toArray 1 hB (by simp [maxLen]) (by simp [cellsB, hk])
  unfold OK16
  rw [cellsK_one]
  simpa using h

end Go.Proofs.YtinpiodfpnbllaaGreatDoor

/- The proof of a leaf: the program's and the reference's; the reference's growth. -/
namespace Go.Proofs.YtinpiodfpnbllaaGreatDoor
open Go.RowKit
set_option linter.unusedVariables false
set_option linter.unusedSimpArgs false

/-- The cells of a proof, or of a growth. -/
def prC (a b : Int) (A : Option Addr) (n c : Nat) : List Value := [.int .i64 a, .int .i64 b, .slice A n c]
theorem bcell {W w1 : World} (hb : Below W.heap.size W w1) : (∀ b o, b < W.heap.size → w1.cell? ⟨b, o, none⟩ = W.cell? ⟨b, o, none⟩) ∧ (∀ b o, b < W.heap.size → w1.frozen? ⟨b, o, none⟩ = W.frozen? ⟨b, o, none⟩) :=
  ⟨fun b o h => hb.cell (p := ⟨b, o, none⟩) h, fun b o h => hb.frozen (p := ⟨b, o, none⟩) h⟩
theorem OK16.set_low {B : Nat} {w : World} {A : Option Addr} {c : Nat} {ks : List (List UInt8)} (h : OK16 B w A c ks) (p : Addr) (u : Value) (hp : p.block < B) : OK16 B (w.setCell p u) A c ks := by
  refine ⟨h.1, h.2.elim Or.inl fun ⟨g, cap, cur, hv, hg, hh, r⟩ => Or.inr ⟨g, cap, cur, hv, hg, ?_, r⟩⟩
  exact (Below.heap_setCell w p u g (by omega)).trans hh
/-- What is returned: a proof or a growth, with an error. -/
def PrEnd (B : Nat) (a b : Int) (P : List (List UInt8)) (e0 : Int) (e : Ending) (w' : World) : Prop := ∃ A c, e = .returned (.tuple #[.agg (prC a b A P.length c).toArray, .int .i64 e0]) ∧ OK16 B w' A c P
structure PrV where
  a : Int
  b : Int
  P : List (List UInt8)
  e : Int
def proveS (ks : List (List UInt8)) (i : Int) : PrV := if 128 < ks.length then ⟨0, 0, [], 4⟩ else if i < 0 ∨ (ks.length : Int) ≤ i then ⟨0, 0, [], 2⟩ else ⟨ks.length, i, pathS ks i.toNat, 0⟩
def growthS (ks : List (List UInt8)) (i : Int) : PrV := if 128 < ks.length then ⟨0, 0, [], 4⟩ else if i < 1 ∨ (ks.length : Int) < i then ⟨0, 0, [], 2⟩ else ⟨i, ks.length, partS ks i.toNat true, 0⟩

set_option maxHeartbeats 1000000 in
theorem proof_any (ks : List (List UInt8)) (i : Nat) (A : Option Addr) (c : Nat) (w : World) {n : Nat} (hn : ks.length = n) (hi : i < n) (hbig : n ≤ 1000) (h : KR w A c ks) :
    Calls Tryz.prog 78 #[.slice A n c, .int .i64 (i : Int)] w fun e w' => (∃ A' c', e = .returned (.agg (prC n i A' (pathS ks i).length c').toArray) ∧ OK16 w.heap.size w' A' c' (pathS ks i)) ∧ Below w.heap.size w w' := by
  have hni : (n : Int) ≤ 1000 := by omega
  have b0 := alloc_bel w (.cells #[.int .i64 0, .int .i64 0, .slice none 0 0] 27)
  have HP : Hid (∀ W, Below w.heap.size w W → Calls Tryz.prog 139 #[.slice A n c, .int .i64 (i : Int)] W fun e w' => (∃ A' c', e = .returned (.slice A' (pathS ks i).length c') ∧ OK16 W.heap.size w' A' c' (pathS ks i)) ∧ Below W.heap.size W w') := fun W hW => prove_any ks i A c W hn hi hbig (h.below hW)
  generalize pathS ks i = P at HP ⊢
  generalize P.length = m at HP ⊢
  clear hn hi hbig h
  go_enter Tryz.func78, Tryz.ntmps78
  go_wp2_with (go_at_call 139; refine (HP.out _ b0).mono ?_; rintro e w1 ⟨⟨A1, c1, rfl, ho1⟩, hb1⟩; have b1 := Lib.hid (bel_on b0 hb1); have HO := Lib.hid ho1; have hz := hb1.size; obtain ⟨hc, hf⟩ := bcell hb1; clear ho1 hb1)
  have hlt : w.heap.size < w1.heap.size := by simp at hz; omega
  refine bodyPost_ret (v := .agg #[.int .i64 (n : Int), .int .i64 (i : Int), .slice A1 m c1]) (by simp [results, Tryz.f78, go_sem, hc, hf, hlt]) rfl ⟨⟨A1, c1, rfl, (((HO.out.set_low _ _ (by simp)).set_low _ _ (by simp)).set_low _ _ (by simp)).le_ (by simp)⟩, ?_⟩
  exact ((b1.out.setCell (by simp) _).setCell (by simp) _).setCell (by simp) _

set_option maxHeartbeats 1000000 in
theorem Prove_any (ks : List (List UInt8)) (i : Int) (A : Option Addr) (c : Nat) (w : World) {n : Nat} (hn : ks.length = n) (h : KR w A c ks) :
    Calls Tryz.prog 26 #[.slice A n c, .int .i64 i] w fun e w' => PrEnd w.heap.size (proveS ks i).a (proveS ks i).b (proveS ks i).P (proveS ks i).e e w' ∧ Below w.heap.size w w' := by
  have hnl : (n : Int) ≤ 140737488351232 := by have := h.len; omega
  have b0 := alloc_bel w (.cells #[.int .i64 0, .int .i64 0, .slice none 0 0] 27)
  rcases (by omega : 128 < n ∨ (n ≤ 128 ∧ i < 0) ∨ (n ≤ 128 ∧ 0 ≤ i ∧ (n : Int) ≤ i) ∨ (n ≤ 128 ∧ 0 ≤ i ∧ i < (n : Int))) with hw | ⟨hw, hl⟩ | ⟨hw, hl, hh⟩ | ⟨hw, hl, hh⟩
  all_goals have hwi : (n : Int) ≤ 128 ∨ 128 < (n : Int) := by omega
  · have hw2 : 128 < (n : Int) := by omega
    have HS : Hid (proveS ks i = ⟨0, 0, [], 4⟩) := by unfold Hid proveS; rw [if_pos (by omega)]
    clear hn h hw hwi
    go_enter Tryz.func26, Tryz.ntmps26
    go_wp2
    exact bodyPost_ret (v := .tuple #[.agg #[.int .i64 0, .int .i64 0, .slice none 0 0], .int .i64 4]) (by simp [results, Tryz.f26, go_sem]) rfl ⟨⟨none, 0, by rw [HS.out]; rfl, by rw [HS.out]; exact OK16.nil _ _⟩, b0⟩
  · have hw2 : (n : Int) ≤ 128 := by omega
    have HS : Hid (proveS ks i = ⟨0, 0, [], 2⟩) := by unfold Hid proveS; rw [if_neg (by omega), if_pos (by omega)]
    clear hn h hw hwi
    go_enter Tryz.func26, Tryz.ntmps26
    go_wp2
    exact bodyPost_ret (v := .tuple #[.agg #[.int .i64 0, .int .i64 0, .slice none 0 0], .int .i64 2]) (by simp [results, Tryz.f26, go_sem]) rfl ⟨⟨none, 0, by rw [HS.out]; rfl, by rw [HS.out]; exact OK16.nil _ _⟩, b0⟩
  · have hw2 : (n : Int) ≤ 128 := by omega
    have HS : Hid (proveS ks i = ⟨0, 0, [], 2⟩) := by unfold Hid proveS; rw [if_neg (by omega), if_pos (by omega)]
    clear hn h hw hwi
    go_enter Tryz.func26, Tryz.ntmps26
    go_wp2
    exact bodyPost_ret (v := .tuple #[.agg #[.int .i64 0, .int .i64 0, .slice none 0 0], .int .i64 2]) (by simp [results, Tryz.f26, go_sem]) rfl ⟨⟨none, 0, by rw [HS.out]; rfl, by rw [HS.out]; exact OK16.nil _ _⟩, b0⟩
  · have hw2 : (n : Int) ≤ 128 := by omega
    have HS : Hid (proveS ks i = ⟨n, i, pathS ks i.toNat, 0⟩) := by unfold Hid proveS; rw [if_neg (by omega), if_neg (by omega), hn]
    obtain ⟨j, rfl⟩ : ∃ j : Nat, i = (j : Int) := ⟨i.toNat, by omega⟩
    rw [Int.toNat_natCast] at HS
    have HP : Hid (∀ W, Below w.heap.size w W → Calls Tryz.prog 78 #[.slice A n c, .int .i64 (j : Int)] W fun e w' => (∃ A' c', e = .returned (.agg #[.int .i64 (n : Int), .int .i64 (j : Int), .slice A' (pathS ks j).length c']) ∧ OK16 W.heap.size w' A' c' (pathS ks j)) ∧ Below W.heap.size W w') := fun W hW => proof_any ks j A c W hn (by omega) (by omega) (h.below hW)
    generalize pathS ks j = P at HP HS
    obtain ⟨m, hm⟩ : ∃ m, P.length = m := ⟨_, rfl⟩
    rw [hm] at HP
    have HM := Lib.hid hm
    clear hn h hw hwi hm
    go_enter Tryz.func26, Tryz.ntmps26
    go_wp2_with (go_at_call 78; refine (HP.out _ b0).mono ?_; rintro e w1 ⟨⟨A1, c1, rfl, ho1⟩, hb1⟩; have b1 := Lib.hid (bel_on b0 hb1); have HO := Lib.hid ho1; have hz := hb1.size; obtain ⟨hc, hf⟩ := bcell hb1; clear ho1 hb1)
    have hlt : w.heap.size < w1.heap.size := by simp at hz; omega
    refine bodyPost_ret (v := .tuple #[.agg #[.int .i64 (n : Int), .int .i64 (j : Int), .slice A1 m c1], .int .i64 0]) (by simp [results, Tryz.f26, go_sem, hc, hf, hlt]) rfl ⟨⟨A1, c1, by rw [HS.out]; show _ = Ending.returned (.tuple #[.agg #[.int .i64 (n : Int), .int .i64 (j : Int), .slice A1 P.length c1], .int .i64 0]); rw [HM.out], by rw [HS.out]; exact (((HO.out.set_low _ _ (by simp)).set_low _ _ (by simp)).set_low _ _ (by simp)).le_ (by simp)⟩, ?_⟩
    exact ((b1.out.setCell (by simp) _).setCell (by simp) _).setCell (by simp) _

end Go.Proofs.YtinpiodfpnbllaaGreatDoor

/- Texts that are taken: the variable, the rows, their bytes. -/
namespace Go.Proofs.YtinpiodfpnbllaaGreatDoor
open Go.RowKit
set_option linter.unusedVariables false
set_option linter.unusedSimpArgs false
attribute [local go_sem] run_storeCells_key run_storeCells_new

theorem Blk.ne_own {w : World} {g : Nat} {t : TypeId} {cs : Array Value} (h : Blk w g t cs) {B' : Nat} {t' : TypeId} {s' n' : Nat} {v' : Value} {xs' : List Value} (h' : w.ownsRow B' t' s' v' n' xs') (hne : t ≠ t') : some g ≠ v'.ownBlock := by
  rcases h'.2 with ⟨rfl, _⟩ | ⟨g', cap', cur', rfl, _, hh', _⟩
  · simp [Value.ownBlock]
  · intro e
    have : g = g' := by simpa [Value.ownBlock] using e
    subst this
    unfold Blk at h
    rw [h] at hh'
    injection hh' with hh'
    injection hh' with _ ht
    exact hne ht
theorem Blk.grown {w w' : World} {g : Nat} {t : TypeId} {cs : Array Value} (h : Blk w g t cs) {B' : Nat} {t' : TypeId} {s' n' : Nat} {v' : Value} {xs' : List Value} (h' : w.ownsRow B' t' s' v' n' xs') (hne : t ≠ t') (hg : w.grownBy w' v'.ownBlock) : Blk w' g t cs :=
  (hg.block g h.lt (h.ne_own h' hne)).trans h
theorem own_block_apart {w w' : World} {B : Nat} {t t' : TypeId} {s n g : Nat} {v : Value} {xs : List Value} {cs : Array Value} (h : w.ownsRow B t s v n xs) (hb : Blk w g t' cs) (hne : t' ≠ t) (hk : ∀ k, k ≠ g → w'.heap[k]? = w.heap[k]?) : w'.ownsRow B t s v n xs :=
  ⟨h.1, h.2.elim Or.inl fun ⟨g', cap, cur, hv, hB, hh, r⟩ => Or.inr ⟨g', cap, cur, hv, hB, (hk g' fun e => by
    subst e
    unfold Blk at hb
    rw [hb] at hh
    injection hh with hh
    injection hh with _ ht
    exact hne ht).trans hh, r⟩⟩
theorem own_set_apart {w : World} {B : Nat} {t t' : TypeId} {s n g : Nat} {v : Value} {xs : List Value} {cs : Array Value} (h : w.ownsRow B t s v n xs) (hb : Blk w g t' cs) (hne : t' ≠ t) (i : Nat) (u : Value) : (w.setCell ⟨g, i, none⟩ u).ownsRow B t s v n xs :=
  own_block_apart h hb hne fun k hk => Below.heap_setCell w _ u k hk
theorem own_row_apart {w : World} {B : Nat} {t t' : TypeId} {s n g : Nat} {v : Value} {xs : List Value} {cs : Array Value} (h : w.ownsRow B t s v n xs) (hb : Blk w g t' cs) (hne : t' ≠ t) (cs' : Array Value) : (w.setRow g cs').ownsRow B t s v n xs :=
  own_block_apart h hb hne fun k hk => setRow_other w g k cs' hk
theorem src_one (w : World) (v : Value) (t : TypeId) : Src (w.alloc (.cells #[v] t)) 1 (some ⟨w.heap.size, 0, none⟩) 1 [v] := by
  refine ⟨rfl, .inr ⟨_, rfl, fun j u hu => ?_⟩⟩
  rw [Addr.add_lit, Nat.zero_add, (Blk.new w t #[v]).cell j]
  simpa using hu

/-- Keys in memory stay as they are. -/
def KeepT (w w' : World) : Prop := ∀ k cs, Blk w k 24 cs → Blk w' k 24 cs
theorem KeepT.refl (w : World) : KeepT w w := fun _ _ h => h
theorem KeepT.trans {w1 w2 w3 : World} (h : KeepT w1 w2) (h' : KeepT w2 w3) : KeepT w1 w3 := fun k cs hk => h' k cs (h k cs hk)
theorem KeepT.of_below {w w' : World} (h : Below w.heap.size w w') : KeepT w w' := fun k cs hk => hk.below' h
theorem KeepT.grown {w w' : World} {B' : Nat} {t' : TypeId} {s' n' : Nat} {v' : Value} {xs' : List Value} (h' : w.ownsRow B' t' s' v' n' xs') (hne : 24 ≠ t') (hg : w.grownBy w' v'.ownBlock) : KeepT w w' := fun k cs hk => hk.grown h' hne hg
theorem KeepT.set {w : World} {g i : Nat} {t : TypeId} {cs : Array Value} (hb : Blk w g t cs) (hne : t ≠ 24) (u : Value) : KeepT w (w.setCell ⟨g, i, none⟩ u) := fun k cs' hk => by
  refine hk.far ?_ u
  intro e
  subst e
  unfold Blk at hb hk
  rw [hk] at hb
  injection hb with hb
  injection hb with _ ht
  exact hne ht.symm
theorem KeepT.rowAbove {w w1 : World} (h : KeepT w w1) {g : Nat} (hg : w.heap.size ≤ g) (cs : Array Value) : KeepT w (w1.setRow g cs) := fun k cs' hk => (setRow_other w1 g k cs (by have := hk.lt; omega)).trans (h k cs' hk)
theorem KeepT.row {w w1 : World} (h : KeepT w w1) (cs : Array Value) : KeepT w (w1.setRow w.heap.size cs) := fun k cs' hk => (setRow_other w1 w.heap.size k cs (by have := hk.lt; omega)).trans (h k cs' hk)
/-- Texts that were taken. -/
def TX (B : Nat) (w : World) (g : Nat) (ts : List (List UInt8)) : Prop :=
  ∃ A c rs, rs.map BRow.l = ts ∧ B ≤ g ∧ Blk w g 150 #[.slice A rs.length c] ∧ RO B w A c rs ∧ (∀ r ∈ rs, OB B w r.A r.c r.l) ∧ ∀ t ∈ ts, t.length ≤ 1000
theorem TX.below {B : Nat} {w w' : World} {g : Nat} {ts : List (List UInt8)} (h : TX B w g ts) (hb : Below w.heap.size w w') : TX B w' g ts := by
  obtain ⟨A, c, rs, h1, h2, h3, h4, h5, h6⟩ := h
  exact ⟨A, c, rs, h1, h2, h3.below' hb, h4.below hb, fun r hr => (h5 r hr).below hb, h6⟩
theorem TX.lt {B : Nat} {w : World} {g : Nat} {ts : List (List UInt8)} (h : TX B w g ts) : g < w.heap.size := by
  obtain ⟨A, c, rs, h1, h2, h3, h4, h5, h6⟩ := h
  exact h3.lt
theorem TX.le {B : Nat} {w : World} {g : Nat} {ts : List (List UInt8)} (h : TX B w g ts) : B ≤ g := by
  obtain ⟨A, c, rs, h1, h2, h3, h4, h5, h6⟩ := h
  exact h2
theorem TX.row {B : Nat} {w : World} {g : Nat} {ts : List (List UInt8)} (h : TX B w g ts) {g' : Nat} {cs : Array Value} (hb : Blk w g' 24 cs) (cs' : Array Value) : TX B (w.setRow g' cs') g ts := by
  obtain ⟨A, c, rs, h1, h2, h3, h4, h5, h6⟩ := h
  refine ⟨A, c, rs, h1, h2, ?_, own_row_apart h4 hb (by decide) cs', fun r hr => own_row_apart (h5 r hr) hb (by decide) cs', h6⟩
  refine (setRow_other w g' g cs' fun e => ?_).trans h3
  subst e
  unfold Blk at hb h3
  rw [hb] at h3
  injection h3 with h3
  injection h3 with _ ht
  exact absurd ht (by decide)

theorem wpList_append_text (w : World) {ops : Array Oper} {rest : List Oper} {o : Oper} {a : Act} {Q : Exit → Act → World → Prop} (hgd : o.guard = none) (s x : Operand)
    (ho : o.op = .call { callee := .builtin .append, args := #[s, x], argTypes := #[150, 150] })
    (B : Nat) (A : Option Addr) (n c : Nat) (rs : List BRow) (hn : rs.length = n) (hs : a.eval s = .slice A n c) (hown : RO B w A c rs)
    (r : BRow) (X : Option Addr) (d : Nat) (hx : a.eval x = .slice X 1 d) (hsrc : Src w 1 X 1 [r.v])
    (hlen : n ≤ 1000000) (hB : B ≤ w.heap.size)
    (h : ∀ A' c' w', RO B w' A' c' (rs ++ [r]) → Below B w w' → w.grownBy w' (Value.ownBlock (.slice A n c)) → wpList Tryz.prog ops Q rest (a.put o.dst (.slice A' (n + 1) c')) w') : wpList Tryz.prog ops Q (o :: rest) a w := by
  obtain ⟨i0, hi, hz0, hz1, hz2⟩ := info_parts rows_info
  subst hn
  refine wpList_append_src w hgd s x 150 ho B 22 i0 (.slice none 0 0) 1 24 Tryz.underlying150 hi hz0 hz1 hz2 rfl (by omega) A rs.length c (rs.map BRow.v) hs hown X 1 d [r.v] hx hsrc (by intro u hu; rw [List.mem_singleton.1 hu]; rfl)
    (by simp only [maxLen]; omega) (by omega) hB ?_
  intro A' c' w' h1 h2 h3
  refine h A' c' w' ?_ (grown_below (Below.refl _ _) hown h2 hB (Nat.le_refl _)) h2
  unfold RO
  rw [List.map_append, List.length_append]
  exact h1

theorem taken {B : Nat} {w : World} {g : Nat} {A A0 : Option Addr} {c c0 q0 q : Nat} {rs : List BRow} {ts : List (List UInt8)} (hro : RO B w A c rs) (hob : ∀ r ∈ rs, OB B w r.A r.c r.l) (hb : Blk w g 150 #[.slice A0 q0 c0]) (hts : rs.map BRow.l = ts) (hq : rs.length = q) (hg : B ≤ g) (hbd : ∀ t ∈ ts, t.length ≤ 1000) :
    TX B (w.setCell ⟨g, 0, none⟩ (.slice A q c)) g ts := by
  subst hq
  refine ⟨A, c, rs, hts, hg, ?_, own_set_apart hro hb (by decide) _ _, fun r hr => own_set_apart (hob r hr) hb (by decide) _ _, hbd⟩
  have := hb.set_ 0 (.slice A rs.length c)
  simpa using this

set_option maxHeartbeats 1000000 in
set_option maxRecDepth 100000 in
theorem take_any {B : Nat} (ts : List (List UInt8)) (t : List UInt8) (X : Option Addr) (d g : Nat) (w : World) {m : Nat} (hm : t.length = m) (h : TX B w g ts) (hx : OB B w X d t) (hl : m ≤ 1000) (hts : ts.length ≤ 100000) :
    Calls Tryz.prog 95 #[.pointer (some ⟨g, 0, none⟩), .slice X m d] w fun e w' => e = .returned (.agg (cellsB (digS t)).toArray) ∧ TX B w' g (ts ++ [t]) ∧ KeepT w w' ∧ Below B w w' := by
  have hglt := h.lt
  have hBg := h.le
  obtain ⟨A, c, rs, hrs, _, hblk, hro, hob, hbd⟩ := h
  have HBD : Hid (∀ x ∈ ts ++ [t], x.length ≤ 1000) := fun x hx => by
    rcases List.mem_append.1 hx with hx | hx
    · exact hbd x hx
    · rw [List.mem_singleton.1 hx, hm]; exact hl
  obtain ⟨q, hq⟩ : ∃ q, rs.length = q := ⟨_, rfl⟩
  have hqb : q ≤ 100000 := by rw [← hq, ← List.length_map (f := BRow.l), hrs]; exact hts
  rw [hq] at hblk
  have HZ := Lib.hid zero16
  have HQ := Lib.hid hq
  have hc0 : w.cell? ⟨g, 0, none⟩ = some (.slice A q c) := hblk.cell 0
  have HKEY := Lib.hid (Blk.new w 24 (cellsB zeroK).toArray)
  have b0 := alloc_bel w (.cells (cellsB zeroK).toArray 24)
  have b1 : Below w.heap.size w ((w.alloc (.cells (cellsB zeroK).toArray 24)).alloc (.cells #[.slice X m d] 22)) := alloc2_bel w _ _
  have HSRC := Lib.hid (src_one (w.alloc (.cells (cellsB zeroK).toArray 24)) (.slice X m d) 22)
  have HKEY1 := Lib.hid (HKEY.out.alloc (.cells #[.slice X m d] 22))
  have HRO := Lib.hid (hro.below b1)
  have HBLK := Lib.hid (hblk.below' b1)
  have HOB : Hid (∀ r ∈ rs ++ [⟨X, d, t⟩], OB B ((w.alloc (.cells (cellsB zeroK).toArray 24)).alloc (.cells #[.slice X m d] 22)) r.A r.c r.l) := fun r hr => by
    rcases List.mem_append.1 hr with hr | hr
    · exact (hob r hr).below b1
    · rw [List.mem_singleton.1 hr]; exact hx.below b1
  have HRS : Hid ((rs ++ [(⟨X, d, t⟩ : BRow)]).map BRow.l = ts ++ [t]) := by unfold Hid; rw [List.map_append, hrs]; rfl
  have HM := Lib.hid hm
  have HDL : Hid ((digS t).length = 16) := digS_length _
  have HD : Hid (∀ A c W, BR W A c t → Calls Tryz.prog 121 #[.slice A m c] W fun e w' => e = .returned (.agg (cellsB (digS t)).toArray) ∧ Below W.heap.size W w') := fun A c W hW => digest_any t A c W hm hW (by omega)
  generalize digS t = dg at HDL HD ⊢
  have hdc : (cellsB dg).length = 16 := by rw [cellsB_length, HDL.out]
  have hall := all16 dg
  have hBg' : B ≤ w.heap.size := by omega
  clear hrs hq hblk hro hob hx hm hbd
  go_enter Tryz.func95, Tryz.ntmps95
  go_wp2_with (first
    | (at_builtin; rw [HZ.out]; refine wpList_append_text _ rfl (.tmp 8) (.tmp 10) rfl B A q c rs HQ.out rfl HRO.out ⟨X, d, t⟩ (some ⟨w.heap.size + 1, 0, none⟩) 1 rfl (by rw [show BRow.v ⟨X, d, t⟩ = .slice X m d from by unfold BRow.v; rw [HM.out]]; have := HSRC.out; rw [World.size_alloc] at this; exact this) (by omega) (by have := HKEY1.out.lt; omega) ?_; intro A5 c5 w5 hro5 hbl5 hg5; rw [← HQ.out] at hg5; have K5 := Lib.hid ((KeepT.of_below b1).trans (KeepT.grown HRO.out (by decide) hg5)); have HBLK5 := Lib.hid (HBLK.out.grown HRO.out (by decide) hg5); have HKEY5 := Lib.hid (HKEY1.out.grown HRO.out (by decide) hg5); have HOB5 : Hid (∀ r ∈ rs ++ [(⟨X, d, t⟩ : BRow)], OB B w5 r.A r.c r.l) := (fun r hr => own_kept (HOB.out r hr) HRO.out (by decide) hg5); have HRO5 := Lib.hid hro5; have hc5 : w5.cell? ⟨g, 0, none⟩ = some (.slice A q c) := HBLK5.out.cell 0; have hf5 : w5.frozen? ⟨g, 0, none⟩ = false := HBLK5.out.frozen 0; have B5 : Hid (Below B w w5) := ((b1.mono hBg').trans hbl5); clear hro5 hg5 hbl5)
    | (go_at_call 121; have ho6 := own_set_apart (HOB5.out ⟨X, d, t⟩ (by simp)) HBLK5.out (by decide) 0 (.slice A5 (q + 1) c5); rw [HM.out] at ho6; refine (HD.out X d _ (OB.br (by unfold OB; rw [HM.out]; exact ho6) (by rw [HM.out]; omega))).mono ?_; rintro e w7 ⟨rfl, hb7⟩; have TX7 : Hid (TX B w7 g (ts ++ [t])) := (taken HRO5.out HOB5.out HBLK5.out HRS.out (by rw [List.length_append, HQ.out]; rfl) hBg HBD.out).below hb7; have KEY7 := (HKEY5.out.far (p := ⟨g, 0, none⟩) (by simp; omega) (.slice A5 (q + 1) c5)).below' hb7; have hr7 : (rowAt w7 w.heap.size).size = 16 := (by rw [KEY7.row]; rfl); have hf7 := KEY7.free; have B6 : Below B w (w5.setCell ⟨g, 0, none⟩ (.slice A5 (q + 1) c5)) := B5.out.setCell hBg _; have B7 := Lib.hid (B6.trans (hb7.mono (by have := B5.out.size; simp; omega))); have HKEY7 := Lib.hid KEY7; have K7 := Lib.hid ((K5.out.trans (KeepT.set (i := 0) HBLK5.out (by decide) (.slice A5 (q + 1) c5))).trans (KeepT.of_below hb7)); clear KEY7 ho6))
  exact bodyPost_ret (results_cell_row rfl _ _ w.heap.size _ _ (0, 0) _ rfl (HKEY7.out.setRow (cellsB dg).toArray) under_key rfl (cellsB_size _ HDL.out)) rfl ⟨rfl, TX7.out.row HKEY7.out _, K7.out.row _, below_setRow B7.out hBg' _⟩
end Go.Proofs.YtinpiodfpnbllaaGreatDoor

/- The texts of a list: the program's. -/
namespace Go.Proofs.YtinpiodfpnbllaaGreatDoor
open Go.RowKit
set_option linter.unusedVariables false
set_option linter.unusedSimpArgs false
attribute [local go_sem] run_storeCells_key run_storeCells_new

set_option maxHeartbeats 1000000 in
set_option maxRecDepth 100000 in
theorem takeLeaf_any {B : Nat} (ts : List (List UInt8)) (k : List UInt8) (g : Nat) (w : World) (hk : k.length = 16) (h : TX B w g ts) (hts : ts.length ≤ 100000) :
    Calls Tryz.prog 94 #[.agg (cellsB k).toArray, .pointer (some ⟨g, 0, none⟩)] w fun e w' => e = .returned (.agg (cellsB (digS (leafT k))).toArray) ∧ TX B w' g (ts ++ [leafT k]) ∧ KeepT w w' ∧ Below B w w' := by
  have HZ := Lib.hid zero16
  have HK := Lib.hid hk
  have hBg : B ≤ w.heap.size := by have := h.lt; have := h.le; omega
  have b0 := alloc2_bel w (.cells (cellsB k).toArray 24) (.cells (cellsB zeroK).toArray 24)
  have B0 := Lib.hid (blk_b0 w (cellsB k).toArray 24 (.cells (cellsB zeroK).toArray 24))
  have B1 := Lib.hid (blk_b1 w (.cells (cellsB k).toArray 24) (cellsB zeroK).toArray 24)
  have HTX := Lib.hid (h.below b0)
  have HLT : Hid (∀ W, Calls Tryz.prog 96 #[.agg (cellsB k).toArray] W fun e w' => (∃ A c, e = .returned (.slice A 17 c) ∧ OB W.heap.size w' A c (leafT k)) ∧ Below W.heap.size W w') := fun W => leafText_any k W hk
  have HLL : Hid ((leafT k).length = 17) := by unfold Hid leafT; simp [hk]
  generalize leafT k = t at HLT HLL ⊢
  have HTK : Hid (∀ X d W, TX B W g ts → OB B W X d t → Calls Tryz.prog 95 #[.pointer (some ⟨g, 0, none⟩), .slice X 17 d] W fun e w' => e = .returned (.agg (cellsB (digS t)).toArray) ∧ TX B w' g (ts ++ [t]) ∧ KeepT W w' ∧ Below B W w') := fun X d W h1 h2 => take_any ts t X d g W HLL.out h1 h2 (by omega) hts
  have HDL : Hid ((digS t).length = 16) := digS_length _
  generalize digS t = dg at HDL HTK ⊢
  have hdc : (cellsB dg).length = 16 := by rw [cellsB_length, HDL.out]
  have hall := all16 dg
  clear hk h
  go_enter Tryz.func94, Tryz.ntmps94
  go_wp2_with (first
    | (refine wpList_load_row rfl 24 (.tmp 2) rfl w.heap.size rfl 24 (cellsB k).toArray (0, 0) _ (by rw [HZ.out]; exact B0.out) under_key rfl (cellsB_size _ HK.out) ?_)
    | (go_at_call 96; rw [HZ.out]; refine (HLT.out _).mono ?_; rintro e w1 ⟨⟨A1, c1, rfl, ho1⟩, hb1⟩; have b1 := bel_on b0 hb1; have TX1 := Lib.hid (HTX.out.below hb1); have O1 := Lib.hid (ho1.le_ (Nat.le_trans hBg b0.size)); have Q1 := Lib.hid (B1.out.below' hb1); clear ho1 hb1)
    | (go_at_call 95; refine (HTK.out _ _ _ TX1.out O1.out).mono ?_; rintro e w2 ⟨rfl, htx2, hk2, hb2⟩; have TX2 := Lib.hid htx2; have K2 := Lib.hid ((KeepT.of_below b1).trans hk2); have Q2 := hk2 _ _ Q1.out; have b2 := Lib.hid ((b1.mono hBg).trans hb2); have hr2 : (rowAt w2 (w.heap.size + 1)).size = 16 := (by rw [Q2.row]; rfl); have hf2 := Q2.free; have HQ2 := Lib.hid Q2; clear Q2 htx2 hk2 hb2))
  exact bodyPost_ret (results_cell_row rfl _ _ (w.heap.size + 1) _ _ (0, 0) _ rfl (HQ2.out.setRow (cellsB dg).toArray) under_key rfl (cellsB_size _ HDL.out)) rfl ⟨rfl, TX2.out.row HQ2.out _, K2.out.rowAbove (by omega) _, below_setRow b2.out (by omega) _⟩

set_option maxHeartbeats 1000000 in
set_option maxRecDepth 100000 in
theorem takeNode_any {B : Nat} (ts : List (List UInt8)) (a b : List UInt8) (g : Nat) (w : World) (ha : a.length = 16) (hb : b.length = 16) (h : TX B w g ts) (hts : ts.length ≤ 100000) :
    Calls Tryz.prog 97 #[.agg (cellsB a).toArray, .agg (cellsB b).toArray, .pointer (some ⟨g, 0, none⟩)] w fun e w' => e = .returned (.agg (cellsB (digS (nodeT a b))).toArray) ∧ TX B w' g (ts ++ [nodeT a b]) ∧ KeepT w w' ∧ Below B w w' := by
  have HZ := Lib.hid zero16
  have HA := Lib.hid ha
  have HB := Lib.hid hb
  have hBg : B ≤ w.heap.size := by have := h.lt; have := h.le; omega
  have b0 := alloc3_bel w (.cells (cellsB a).toArray 24) (.cells (cellsB b).toArray 24) (.cells (cellsB zeroK).toArray 24)
  have B0 := Lib.hid (blk_a0 w (cellsB a).toArray 24 (.cells (cellsB b).toArray 24) (.cells (cellsB zeroK).toArray 24))
  have B1 := Lib.hid (blk_a1 w (.cells (cellsB a).toArray 24) (cellsB b).toArray 24 (.cells (cellsB zeroK).toArray 24))
  have B2 := Lib.hid (blk_a2 w (.cells (cellsB a).toArray 24) (.cells (cellsB b).toArray 24) (cellsB zeroK).toArray 24)
  have HTX := Lib.hid (h.below b0)
  have HLT : Hid (∀ W, Calls Tryz.prog 98 #[.agg (cellsB a).toArray, .agg (cellsB b).toArray] W fun e w' => (∃ A c, e = .returned (.slice A 33 c) ∧ OB W.heap.size w' A c (nodeT a b)) ∧ Below W.heap.size W w') := fun W => nodeText_any a b W ha hb
  have HLL : Hid ((nodeT a b).length = 33) := by unfold Hid nodeT; simp [ha, hb]
  generalize nodeT a b = t at HLT HLL ⊢
  have HTK : Hid (∀ X d W, TX B W g ts → OB B W X d t → Calls Tryz.prog 95 #[.pointer (some ⟨g, 0, none⟩), .slice X 33 d] W fun e w' => e = .returned (.agg (cellsB (digS t)).toArray) ∧ TX B w' g (ts ++ [t]) ∧ KeepT W w' ∧ Below B W w') := fun X d W h1 h2 => take_any ts t X d g W HLL.out h1 h2 (by omega) hts
  have HDL : Hid ((digS t).length = 16) := digS_length _
  generalize digS t = dg at HDL HTK ⊢
  have hdc : (cellsB dg).length = 16 := by rw [cellsB_length, HDL.out]
  have hall := all16 dg
  clear ha hb h
  go_enter Tryz.func97, Tryz.ntmps97
  go_wp2_with (first
    | (refine wpList_load_row rfl 24 (.tmp 3) rfl w.heap.size rfl 24 (cellsB a).toArray (0, 0) _ (by rw [HZ.out]; exact B0.out) under_key rfl (cellsB_size _ HA.out) ?_)
    | (refine wpList_load_row rfl 24 (.tmp 4) rfl (w.heap.size + 1) rfl 24 (cellsB b).toArray (0, 0) _ (by rw [HZ.out]; exact B1.out) under_key rfl (cellsB_size _ HB.out) ?_)
    | (go_at_call 98; rw [HZ.out]; refine (HLT.out _).mono ?_; rintro e w1 ⟨⟨A1, c1, rfl, ho1⟩, hb1⟩; have b1 := bel_on b0 hb1; have TX1 := Lib.hid (HTX.out.below hb1); have O1 := Lib.hid (ho1.le_ (Nat.le_trans hBg b0.size)); have Q1 := Lib.hid (B2.out.below' hb1); clear ho1 hb1)
    | (go_at_call 95; refine (HTK.out _ _ _ TX1.out O1.out).mono ?_; rintro e w2 ⟨rfl, htx2, hk2, hb2⟩; have TX2 := Lib.hid htx2; have K2 := Lib.hid ((KeepT.of_below b1).trans hk2); have Q2 := hk2 _ _ Q1.out; have b2 := Lib.hid ((b1.mono hBg).trans hb2); have hr2 : (rowAt w2 (w.heap.size + 1 + 1)).size = 16 := (by rw [Q2.row]; rfl); have hf2 := Q2.free; have HQ2 := Lib.hid Q2; clear Q2 htx2 hk2 hb2))
  exact bodyPost_ret (results_cell_row rfl _ _ (w.heap.size + 1 + 1) _ _ (0, 0) _ rfl (HQ2.out.setRow (cellsB dg).toArray) under_key rfl (cellsB_size _ HDL.out)) rfl ⟨rfl, TX2.out.row HQ2.out _, K2.out.rowAbove (by omega) _, below_setRow b2.out (by omega) _⟩

theorem textsS_le : ∀ (n : Nat) (l : List (List UInt8)), l.length = n → 1 ≤ n → (textsS l).length ≤ 2 * n := by
  intro n
  induction n using Nat.strongRecOn with
  | _ n ih =>
    intro l hl h1
    rcases Nat.lt_or_ge n 2 with h2 | h2
    · obtain rfl : n = 1 := by omega
      obtain ⟨x, rfl⟩ := List.length_eq_one_iff.1 hl
      rw [textsS_one]; simp
    have s1 := splitS_lt h2
    have s2 := splitS_pos n
    suffices hs : (textsS l).length + 1 ≤ 2 * n by omega
    have : ∀ (n : Nat) (l : List (List UInt8)), l.length = n → 1 ≤ n → (textsS l).length + 1 ≤ 2 * n := by
      intro n
      induction n using Nat.strongRecOn with
      | _ n ih =>
        intro l hl h1
        rcases Nat.lt_or_ge n 2 with h2 | h2
        · obtain rfl : n = 1 := by omega
          obtain ⟨x, rfl⟩ := List.length_eq_one_iff.1 hl
          rw [textsS_one]; simp
        have s1 := splitS_lt h2
        have s2 := splitS_pos n
        rw [textsS_node (by omega), hl]
        have a := ih (splitS n) s1 (l.take (splitS n)) (by rw [List.length_take]; omega) s2
        have b := ih (n - splitS n) (by omega) (l.drop (splitS n)) (by rw [List.length_drop]; omega) (by omega)
        simp only [List.length_append, List.length_cons, List.length_nil]
        omega
    exact this n l hl h1

set_option maxHeartbeats 1000000 in
set_option maxRecDepth 100000 in
theorem textFold_one (w0 : World) (k : List UInt8) (A : Option Addr) (c g : Nat) (ts : List (List UInt8)) (w : World) (h : KR w0 A c [k]) (hw : Below w0.heap.size w0 w) (ht : TX w0.heap.size w g ts) (hts : ts.length ≤ 100000) :
    Calls Tryz.prog 93 #[.slice A 1 c, .func (.func 94) #[] #[.pointer (some ⟨g, 0, none⟩)], .func (.func 97) #[] #[.pointer (some ⟨g, 0, none⟩)]] w fun e w' => e = .returned (.agg (cellsB (rootS [k])).toArray) ∧ TX w0.heap.size w' g (ts ++ textsS [k]) ∧ KeepT w w' ∧ Below w0.heap.size w w' := by
  have hk : k.length = 16 := h.2 k (by simp)
  obtain ⟨b, off, rfl, hb, hr⟩ := (h.below hw).first
  have HK := Lib.hid hk
  have HZ := Lib.hid zero16
  have b0 := alloc_bel w (.cells (cellsB zeroK).toArray 24)
  have B0 := Lib.hid (Blk.new w 24 (cellsB zeroK).toArray)
  have HR := Lib.hid (range_below hr b0)
  have HTX := Lib.hid (ht.below b0)
  have hws : w0.heap.size ≤ w.heap.size := hw.size
  have HD : Hid (∀ W, TX w0.heap.size W g ts → Calls Tryz.prog 94 #[.agg (cellsB k).toArray, .pointer (some ⟨g, 0, none⟩)] W fun e w' => e = .returned (.agg (cellsB (rootS [k])).toArray) ∧ TX w0.heap.size w' g (ts ++ textsS [k]) ∧ KeepT W w' ∧ Below w0.heap.size W w') := fun W hW => by rw [rootS_one, textsS_one]; exact takeLeaf_any ts k g W hk hW hts
  have HDL : Hid ((rootS [k]).length = 16) := rootS_length _
  generalize rootS [k] = d at HD HDL
  generalize textsS [k] = tk at HD
  have hdc : (cellsB d).length = 16 := by rw [cellsB_length, HDL.out]
  have hall := all16 d
  clear hk hr h ht
  go_enter Tryz.func93, Tryz.ntmps93
  go_wp2_with (first
    | (rw [HZ.out]; refine wpList_load_mid rfl 24 (.tmp 13) rfl b off rfl (cellsB k) _ HR.out under_key rfl (key_info HK.out) ?_)
    | (go_at_call 94; refine (HD.out _ HTX.out).mono ?_; rintro e w2 ⟨rfl, htx2, hk2, hb2⟩; have TX2 := Lib.hid htx2; have K2 := Lib.hid ((KeepT.of_below b0).trans hk2); have Q2 := hk2 _ _ B0.out; have b2 := Lib.hid ((b0.mono hws).trans hb2); have hr2 : (rowAt w2 w.heap.size).size = 16 := (by rw [Q2.row]; rfl); have hf2 := Q2.free; have HQ2 := Lib.hid Q2; clear Q2 htx2 hk2 hb2))
  exact bodyPost_ret (results_cell_row rfl _ _ w.heap.size _ _ (0, 0) _ rfl (HQ2.out.setRow (cellsB d).toArray) under_key rfl (cellsB_size _ HDL.out)) rfl ⟨rfl, TX2.out.row HQ2.out _, K2.out.row _, below_setRow b2.out hws _⟩

set_option maxHeartbeats 2000000 in
set_option maxRecDepth 100000 in
theorem textFold_any (w0 : World) (g n : Nat) : ∀ (ks : List (List UInt8)) (A : Option Addr) (c : Nat) (ts : List (List UInt8)) (w : World), ks.length = n → 1 ≤ n → n ≤ 1000 → KR w0 A c ks → Below w0.heap.size w0 w → TX w0.heap.size w g ts → ts.length + 2 * n ≤ 50000 →
    Calls Tryz.prog 93 #[.slice A n c, .func (.func 94) #[] #[.pointer (some ⟨g, 0, none⟩)], .func (.func 97) #[] #[.pointer (some ⟨g, 0, none⟩)]] w fun e w' => e = .returned (.agg (cellsB (rootS ks)).toArray) ∧ TX w0.heap.size w' g (ts ++ textsS ks) ∧ KeepT w w' ∧ Below w0.heap.size w w' := by
  induction n using Nat.strongRecOn with
  | _ n ih =>
    intro ks A c ts w hn h1n hbig h hw ht hts
    rcases Nat.lt_or_ge n 2 with h2 | h2
    · obtain rfl : n = 1 := by omega
      obtain ⟨k, rfl⟩ := List.length_eq_one_iff.1 hn
      exact textFold_one w0 k A c g ts w h hw ht (by omega)
    have hs1 := splitS_pos n
    have hs2 := splitS_lt h2
    have hcl : n ≤ c := by have := Rd.le h.1; omega
    have hni : (2 : Int) ≤ (n : Int) := by omega
    have hnb : (n : Int) ≤ 1000 := by omega
    have hne0 : ¬ (n : Int) = 0 := by omega
    have hne1 : ¬ (n : Int) = 1 := by omega
    have hws : w0.heap.size ≤ w.heap.size := hw.size
    have HSP : Hid (∀ W, Calls Tryz.prog 113 #[.int .i64 (n : Int)] W fun e w' => e = .returned (.int .i64 ((splitS n : Nat) : Int)) ∧ W = w') := fun W => split_any n W h2 hbig
    have HNODE : Hid (rootS ks = digS (nodeT (rootS (ks.take (splitS n))) (rootS (ks.drop (splitS n))))) := by have := rootS_node (l := ks) (by omega); rw [hn] at this; exact this
    have HTEXT : Hid (textsS ks = textsS (ks.take (splitS n)) ++ (textsS (ks.drop (splitS n)) ++ [nodeT (rootS (ks.take (splitS n))) (rootS (ks.drop (splitS n)))])) := by have := textsS_node (l := ks) (by omega); rw [hn] at this; exact this
    have hT1 := textsS_le (splitS n) (ks.take (splitS n)) (by rw [List.length_take]; omega) hs1
    have hT2 := textsS_le (n - splitS n) (ks.drop (splitS n)) (by rw [List.length_drop]; omega) (by omega)
    have HLO : Hid (∀ W, Below w0.heap.size w0 W → TX w0.heap.size W g ts → Calls Tryz.prog 93 #[.slice A (splitS n) c, .func (.func 94) #[] #[.pointer (some ⟨g, 0, none⟩)], .func (.func 97) #[] #[.pointer (some ⟨g, 0, none⟩)]] W fun e w' => e = .returned (.agg (cellsB (rootS (ks.take (splitS n)))).toArray) ∧ TX w0.heap.size w' g (ts ++ textsS (ks.take (splitS n))) ∧ KeepT W w' ∧ Below w0.heap.size W w') := fun W hW hT => ih (splitS n) hs2 _ A c ts W (by rw [List.length_take]; omega) (by omega) (by omega) (h.take _ (by omega)) hW hT (by omega)
    have HHI : Hid (∀ W, Below w0.heap.size w0 W → TX w0.heap.size W g (ts ++ textsS (ks.take (splitS n))) → Calls Tryz.prog 93 #[.slice (dropK A (splitS n) c) (n - splitS n) (c - splitS n), .func (.func 94) #[] #[.pointer (some ⟨g, 0, none⟩)], .func (.func 97) #[] #[.pointer (some ⟨g, 0, none⟩)]] W fun e w' => e = .returned (.agg (cellsB (rootS (ks.drop (splitS n)))).toArray) ∧ TX w0.heap.size w' g ((ts ++ textsS (ks.take (splitS n))) ++ textsS (ks.drop (splitS n))) ∧ KeepT W w' ∧ Below w0.heap.size W w') := fun W hW hT => ih (n - splitS n) (by omega) _ _ _ _ W (by rw [List.length_drop]; omega) (by omega) (by omega) (h.drop _ (by omega)) hW hT (by rw [List.length_append]; omega)
    have hL1 := rootS_length (ks.take (splitS n))
    have hL2 := rootS_length (ks.drop (splitS n))
    have hsl1 := fun W => slice_keys_to W A n c (splitS n) (by omega)
    have hsl2 := fun W => slice_keys_from W A n c (splitS n) (by omega)
    generalize splitS n = k at HSP HNODE HTEXT HLO HHI hL1 hL2 hsl1 hsl2 hs1 hs2 hT1 hT2
    generalize rootS (ks.take k) = r1 at HNODE HTEXT HLO hL1
    generalize rootS (ks.drop k) = r2 at HNODE HTEXT HHI hL2
    generalize textsS (ks.take k) = x1 at HTEXT HLO HHI hT1
    generalize textsS (ks.drop k) = x2 at HTEXT HHI hT2
    have HD : Hid (∀ W, TX w0.heap.size W g ((ts ++ x1) ++ x2) → Calls Tryz.prog 97 #[.agg (cellsB r1).toArray, .agg (cellsB r2).toArray, .pointer (some ⟨g, 0, none⟩)] W fun e w' => e = .returned (.agg (cellsB (digS (nodeT r1 r2))).toArray) ∧ TX w0.heap.size w' g (((ts ++ x1) ++ x2) ++ [nodeT r1 r2]) ∧ KeepT W w' ∧ Below w0.heap.size W w') := fun W hW => takeNode_any _ r1 r2 g W hL1 hL2 hW (by simp only [List.length_append]; omega)
    have HDL : Hid ((digS (nodeT r1 r2)).length = 16) := digS_length _
    generalize digS (nodeT r1 r2) = d at HD HDL HNODE
    generalize nodeT r1 r2 = nt at HD HTEXT
    have HZ := Lib.hid zero16
    have b0 := alloc_bel w (.cells (cellsB zeroK).toArray 24)
    have B0 := Lib.hid (Blk.new w 24 (cellsB zeroK).toArray)
    have HTX := Lib.hid (ht.below b0)
    have HW := Lib.hid hw
    clear ih h hn hbig hL1 hL2 ht hts hT1 hT2 hw
    go_enter Tryz.func93, Tryz.ntmps93
    go_wp2_with (go_at_call 113; rw [HZ.out]; refine (HSP.out _).mono ?_; rintro e w1 ⟨rfl, rfl⟩)
    obtain ⟨W0, hW0⟩ : ∃ W : World, W = w.alloc (.cells (cellsB zeroK).toArray 24) := ⟨_, rfl⟩
    rw [← hW0] at b0 B0 HTX ⊢
    clear hW0
    refine wp_region_noPanic ?_
    refine wp_region_held_drew (S := fun _ => True) (by kernel_rfl) trivial (fun hS => ?_)
    refine hd_take 0 (_) rfl rfl (by kernel_rfl) (by kernel_rfl) (by kernel_rfl) (fun _ _ _ h => h) (fun w _ => by go_simp <;> rfl) hS ?_
    refine hd_take 1 (_) rfl rfl (by kernel_rfl) (by kernel_rfl) (by kernel_rfl) (fun _ _ _ h => h) (fun w _ => by go_simp <;> rfl) hS ?_
    refine hd_take 2 (_) rfl rfl (by kernel_rfl) (by kernel_rfl) (by kernel_rfl) (fun _ _ _ h => h) (fun w _ => by go_simp <;> rfl) hS ?_
    refine hd_take 4 (_) rfl rfl (by kernel_rfl) (by kernel_rfl) (by kernel_rfl) (fun _ _ _ h => h) (fun w _ => by go_simp <;> rfl) hS ?_
    refine hd_take 5 (_) rfl rfl (by kernel_rfl) (by kernel_rfl) (by kernel_rfl) (fun _ _ _ h => h) (fun w _ => by go_simp <;> rfl) hS ?_
    refine hd_take 7 (_) rfl rfl (by kernel_rfl) (by kernel_rfl) (by kernel_rfl) (fun _ _ _ h => h) (fun w _ => by go_simp <;> rfl) hS ?_
    refine hd_take 8 (_) rfl rfl (by kernel_rfl) (by kernel_rfl) (by kernel_rfl) (fun _ _ _ h => h) (fun w _ => by go_simp <;> rfl) hS ?_
    refine hd_take 10 (_) rfl rfl (by kernel_rfl) (by kernel_rfl) (by kernel_rfl) (fun _ _ _ h => h) (fun w _ => by go_simp <;> rfl) hS ?_
    refine hd_take 11 (_) rfl rfl (by kernel_rfl) (by kernel_rfl) (by kernel_rfl) (fun _ _ _ h => h) (fun w _ => by go_simp <;> rfl) hS ?_
    simp only [List.getElem_toArray, List.getElem_cons_succ, List.getElem_cons_zero, Act.put, List.setIfInBounds_toArray, List.set_cons_zero, List.set_cons_succ]
    refine hd_take 3 (_) rfl rfl (by kernel_rfl) (by kernel_rfl) (by kernel_rfl) (fun _ _ _ h => h) (fun w _ => by go_simp <;> rfl) hS ?_
    refine hd_take 9 (_) rfl rfl (by kernel_rfl) (by kernel_rfl) (by kernel_rfl) (fun _ _ _ h => h) (fun w _ => by go_simp <;> rfl) hS ?_
    simp only [List.getElem_toArray, List.getElem_cons_succ, List.getElem_cons_zero, Act.put, List.setIfInBounds_toArray, List.set_cons_zero, List.set_cons_succ]
    have bw : Below w0.heap.size w W0.drew := (b0.mono hws).trans (Below.refl _ _).drew
    have k0 : KeepT w W0.drew := (KeepT.of_below b0).trans (KeepT.of_below (Below.refl _ _).drew)
    refine hd_calls 6 93 #[.slice A k c, .func (.func 94) #[] #[.pointer (some ⟨g, 0, none⟩)], .func (.func 97) #[] #[.pointer (some ⟨g, 0, none⟩)]] rfl rfl (by kernel_rfl) (by go_simp) ((HLO.out _ (HW.out.trans bw) (HTX.out.below (Below.refl _ _).drew)).mono ?_)
    rintro e w3 ⟨rfl, ht3, hk3, hb3⟩
    have b3 := bw.trans hb3
    refine ⟨_, rfl, trivial, ?_⟩
    refine hd_calls 12 93 #[.slice (dropK A k c) (n - k) (c - k), .func (.func 94) #[] #[.pointer (some ⟨g, 0, none⟩)], .func (.func 97) #[] #[.pointer (some ⟨g, 0, none⟩)]] rfl rfl (by kernel_rfl) (by go_simp) ((HHI.out _ (HW.out.trans b3) ht3).mono ?_)
    rintro e w4 ⟨rfl, ht4, hk4, hb4⟩
    have b4 := b3.trans hb4
    refine ⟨_, rfl, trivial, ?_⟩
    simp only [List.getElem_toArray, List.getElem_cons_succ, List.getElem_cons_zero, Act.put, List.setIfInBounds_toArray, List.set_cons_zero, List.set_cons_succ]
    refine hd_calls 13 97 #[.agg (cellsB r1).toArray, .agg (cellsB r2).toArray, .pointer (some ⟨g, 0, none⟩)] rfl rfl (by kernel_rfl) (by go_simp) ((HD.out _ ht4).mono ?_)
    rintro e w6 ⟨rfl, ht6, hk6, hb6⟩
    have b6 := b4.trans hb6
    refine ⟨_, rfl, trivial, ?_⟩
    simp only [List.getElem_toArray, List.getElem_cons_succ, List.getElem_cons_zero, Act.put, List.setIfInBounds_toArray, List.set_cons_zero, List.set_cons_succ]
    have Q6 := hk6 _ _ (hk4 _ _ (hk3 _ _ B0.out.drew))
    have K6 := ((k0.trans hk3).trans hk4).trans hk6
    refine hd_store 14 w.heap.size (cellsB d).toArray _ _ _ rfl rfl rfl (by kernel_rfl) rfl rfl Q6 (cellsB_size _ HDL.out) (by rw [List.size_toArray, List.size_toArray, cellsB_length, cellsB_length, HDL.out]; rfl) (all_oneCell_toArray (cells_one d)) trivial ?_
    refine wpAnyH_done (by kernel_rfl) (NoPanic.normal ?_) _
    simp only [List.getElem_toArray, List.getElem_cons_succ, List.getElem_cons_zero, Act.put, List.setIfInBounds_toArray, List.set_cons_zero, List.set_cons_succ]
    have HT6 := Lib.hid (ht6.row Q6 (cellsB d).toArray)
    have HK6 := Lib.hid (K6.row (cellsB d).toArray)
    have HB6 := Lib.hid (below_setRow b6 hws (cellsB d).toArray)
    have HQ6 := Lib.hid (Q6.setRow (cellsB d).toArray)
    clear ht6 ht4 ht3 hk3 hk4 hk6 K6 k0
    go_wp2_with fail
    exact bodyPost_ret (results_cell_row rfl _ _ w.heap.size _ _ (0, 0) _ rfl HQ6.out under_key rfl (cellsB_size _ HDL.out)) rfl ⟨by rw [HNODE.out], by rw [HTEXT.out]; have := HT6.out; simpa only [List.append_assoc] using this, HK6.out, HB6.out⟩
end Go.Proofs.YtinpiodfpnbllaaGreatDoor

/- The root that a path gives: the program's. -/
namespace Go.Proofs.YtinpiodfpnbllaaGreatDoor
open Go.RowKit
set_option linter.unusedVariables false
set_option linter.unusedSimpArgs false
attribute [local go_sem] run_storeCells_key run_storeCells_new

theorem climbS_le (leaf : List UInt8) : ∀ (n i : Nat) (path : List (List UInt8)), 1 ≤ n → (climbS leaf n i path).2.length ≤ n := by
  intro n
  induction n using Nat.strongRecOn with
  | _ n ih =>
    intro i path h1
    rcases Nat.lt_or_ge n 2 with h2 | h2
    · rw [climbS_one _ (by omega)]; simp; omega
    have s1 := splitS_lt h2
    have s2 := splitS_pos n
    by_cases hi : i < splitS n
    · rw [climbS_low _ _ h2 hi]
      have := ih (splitS n) s1 i (initK path) s2
      simp only [List.length_append, List.length_cons, List.length_nil]; omega
    · rw [climbS_high _ _ h2 hi]
      have := ih (n - splitS n) (by omega) (i - splitS n) (initK path) (by omega)
      simp only [List.length_append, List.length_cons, List.length_nil]; omega
/-- The last key of a path, in memory. -/
theorem KR.lastAt {w : World} {A : Option Addr} {c : Nat} {p : List (List UInt8)} (h : KR w A c p) {m : Nat} (hm : p.length = m + 1) : ∃ b off, A = some ⟨b, off, none⟩ ∧ b < w.heap.size ∧ w.rangeAt b (off + m * 16) (cellsB (lastK p)) ∧ (lastK p).length = 16 := by
  obtain ⟨b, off, e, hb, hr⟩ := h.at_ (i := m) (by omega)
  have hl0 : lastK p = p.getD m [] := by unfold lastK; rw [hm]; rfl
  have hl : lastK p = p[m] := by rw [hl0, List.getD_eq_getElem?_getD, List.getElem?_eq_getElem (by omega)]; rfl
  rw [hl]
  exact ⟨b, off, e, hb, hr, h.2 _ (List.getElem_mem _)⟩
theorem KR.init {w : World} {A : Option Addr} {c : Nat} {p : List (List UInt8)} (h : KR w A c p) : KR w A c (initK p) := h.take _ (by omega)

set_option maxHeartbeats 2000000 in
set_option maxRecDepth 100000 in
theorem climb_one (w0 : World) (g i : Nat) (leaf : List UInt8) (hl : leaf.length = 16) (path : List (List UInt8)) (m : Nat) (A : Option Addr) (c : Nat) (ts : List (List UInt8)) (w : World) (hw : Below w0.heap.size w0 w) (ht : TX w0.heap.size w g ts) (hts : ts.length ≤ 100000) :
    Calls Tryz.prog 152 #[.pointer (some ⟨g, 0, none⟩), .agg (cellsB leaf).toArray, .int .i64 1, .int .i64 (i : Int), .slice A m c] w fun e w' => e = .returned (.agg (cellsB (climbS leaf 1 i path).1).toArray) ∧ TX w0.heap.size w' g (ts ++ (climbS leaf 1 i path).2) ∧ KeepT w w' ∧ Below w0.heap.size w w' := by
  rw [climbS_one _ (by omega)]
  have HZ := Lib.hid zero16
  have HK := Lib.hid hl
  have hws : w0.heap.size ≤ w.heap.size := hw.size
  have b0 := alloc2_bel w (.cells (cellsB leaf).toArray 24) (.cells (cellsB zeroK).toArray 24)
  have B0 := Lib.hid (blk_b0 w (cellsB leaf).toArray 24 (.cells (cellsB zeroK).toArray 24))
  have B1 := Lib.hid (blk_b1 w (.cells (cellsB leaf).toArray 24) (cellsB zeroK).toArray 24)
  have HTX := Lib.hid (ht.below b0)
  have HLT : Hid (∀ W, Calls Tryz.prog 96 #[.agg (cellsB leaf).toArray] W fun e w' => (∃ A c, e = .returned (.slice A 17 c) ∧ OB W.heap.size w' A c (leafT leaf)) ∧ Below W.heap.size W w') := fun W => leafText_any leaf W hl
  have HLL : Hid ((leafT leaf).length = 17) := by unfold Hid leafT; simp [hl]
  dsimp only
  generalize leafT leaf = t at HLT HLL ⊢
  have HTK : Hid (∀ X d W, TX w0.heap.size W g ts → OB w0.heap.size W X d t → Calls Tryz.prog 95 #[.pointer (some ⟨g, 0, none⟩), .slice X 17 d] W fun e w' => e = .returned (.agg (cellsB (digS t)).toArray) ∧ TX w0.heap.size w' g (ts ++ [t]) ∧ KeepT W w' ∧ Below w0.heap.size W w') := fun X d W h1 h2 => take_any ts t X d g W HLL.out h1 h2 (by omega) hts
  have HDL : Hid ((digS t).length = 16) := digS_length _
  generalize digS t = dg at HDL HTK ⊢
  have hdc : (cellsB dg).length = 16 := by rw [cellsB_length, HDL.out]
  have hall := all16 dg
  clear hl ht hw
  go_enter Tryz.func152, Tryz.ntmps152
  go_wp2_with (first
    | (refine wpList_load_row rfl 24 (.tmp 6) rfl w.heap.size rfl 24 (cellsB leaf).toArray (0, 0) _ (by rw [HZ.out]; exact B0.out) under_key rfl (cellsB_size _ HK.out) ?_)
    | (go_at_call 96; rw [HZ.out]; refine (HLT.out _).mono ?_; rintro e w1 ⟨⟨A1, c1, rfl, ho1⟩, hb1⟩; have b1 := bel_on b0 hb1; have TX1 := Lib.hid (HTX.out.below hb1); have O1 := Lib.hid (ho1.le_ (Nat.le_trans hws b0.size)); have Q1 := Lib.hid (B1.out.below' hb1); clear ho1 hb1)
    | (go_at_call 95; refine (HTK.out _ _ _ TX1.out O1.out).mono ?_; rintro e w2 ⟨rfl, htx2, hk2, hb2⟩; have TX2 := Lib.hid htx2; have K2 := Lib.hid ((KeepT.of_below b1).trans hk2); have Q2 := hk2 _ _ Q1.out; have b2 := Lib.hid ((b1.mono hws).trans hb2); have hr2 : (rowAt w2 (w.heap.size + 1)).size = 16 := (by rw [Q2.row]; rfl); have hf2 := Q2.free; have HQ2 := Lib.hid Q2; clear Q2 htx2 hk2 hb2))
  exact bodyPost_ret (results_cell_row rfl _ _ (w.heap.size + 1) _ _ (0, 0) _ rfl (HQ2.out.setRow (cellsB dg).toArray) under_key rfl (cellsB_size _ HDL.out)) rfl ⟨rfl, TX2.out.row HQ2.out _, K2.out.rowAbove (by omega) _, below_setRow b2.out (by omega) _⟩

set_option maxHeartbeats 4000000 in
set_option maxRecDepth 100000 in
theorem climb_any (w0 : World) (g : Nat) (leaf : List UInt8) (hl : leaf.length = 16) (n : Nat) : ∀ (i : Nat) (path : List (List UInt8)) (A : Option Addr) (c : Nat) (ts : List (List UInt8)) (w : World), 1 ≤ n → n ≤ 1000 → i < n → path.length = stepsS n i → KR w0 A c path → Below w0.heap.size w0 w → TX w0.heap.size w g ts → ts.length + n ≤ 50000 →
    Calls Tryz.prog 152 #[.pointer (some ⟨g, 0, none⟩), .agg (cellsB leaf).toArray, .int .i64 (n : Int), .int .i64 (i : Int), .slice A path.length c] w fun e w' => e = .returned (.agg (cellsB (climbS leaf n i path).1).toArray) ∧ TX w0.heap.size w' g (ts ++ (climbS leaf n i path).2) ∧ KeepT w w' ∧ Below w0.heap.size w w' := by
  induction n using Nat.strongRecOn with
  | _ n ih =>
    intro i path A c ts w h1n hbig hin hp h hw ht hts
    rcases Nat.lt_or_ge n 2 with h2 | h2
    · obtain rfl : n = 1 := by omega
      exact climb_one w0 g i leaf hl path path.length A c ts w hw ht (by omega)
    have hs1 := splitS_pos n
    have hs2 := splitS_lt h2
    have hni : (2 : Int) ≤ (n : Int) := by omega
    have hnb : (n : Int) ≤ 1000 := by omega
    have hib : (i : Int) < (n : Int) := by omega
    have hne1 : ¬ (n : Int) = 1 := by omega
    have hws : w0.heap.size ≤ w.heap.size := hw.size
    have hcl := Rd.le h.1
    have hcap := Rd.len h.1
    have HSP : Hid (∀ W, Calls Tryz.prog 113 #[.int .i64 (n : Int)] W fun e w' => e = .returned (.int .i64 ((splitS n : Nat) : Int)) ∧ W = w') := fun W => split_any n W h2 (by omega)
    have b0 := alloc2_bel w (.cells (cellsB leaf).toArray 24) (.cells (cellsB zeroK).toArray 24)
    have B0 := Lib.hid (blk_b0 w (cellsB leaf).toArray 24 (.cells (cellsB zeroK).toArray 24))
    have B1 := Lib.hid (blk_b1 w (.cells (cellsB leaf).toArray 24) (cellsB zeroK).toArray 24)
    have HTX := Lib.hid (ht.below b0)
    have HW := Lib.hid hw
    have HZ := Lib.hid zero16
    have HK := Lib.hid hl
    by_cases hk : i < splitS n
    · have hki : (i : Int) < ((splitS n : Nat) : Int) := by omega
      obtain ⟨m, hm⟩ : ∃ m, path.length = m + 1 := ⟨path.length - 1, by rw [hp, stepsS_low h2 hk]; omega⟩
      rw [climbS_low _ _ h2 hk]
      have hq2 := climbS_le leaf (splitS n) (i) (initK path) (by omega)
      have hql := climbS_length leaf (splitS n) (i) (initK path)
      have HC : Hid (∀ W, Below w0.heap.size w0 W → TX w0.heap.size W g ts → Calls Tryz.prog 152 #[.pointer (some ⟨g, 0, none⟩), .agg (cellsB leaf).toArray, .int .i64 ((splitS n : Nat) : Int), .int .i64 (i : Int), .slice A m c] W fun e w' => e = .returned (.agg (cellsB (climbS leaf (splitS n) i (initK path)).1).toArray) ∧ TX w0.heap.size w' g (ts ++ (climbS leaf (splitS n) i (initK path)).2) ∧ KeepT W w' ∧ Below w0.heap.size W w') := fun W hW hT => by
        have hlen : m = (initK path).length := by rw [initK_length, hm]; omega
        rw [hlen]
        exact (ih (splitS n) hs2 i (initK path) A c ts W hs1 (by omega) hk (by rw [initK_length, hp, stepsS_low h2 hk]; omega) h.init hW hT (by omega))
      obtain ⟨b, off, rfl, hb, hr, hhl⟩ := h.lastAt hm
      have HR : Hid (∀ W, Below w0.heap.size w0 W → W.rangeAt b (off + m * 16) (cellsB (lastK path))) := fun W hW => range_below hr hW
      have HH := Lib.hid hhl
      have hmi : (m : Int) ≤ 140737488351232 := by omega
      have hmc : m ≤ c := by omega
      have hmlt : (m : Int) < (m : Int) + 1 := by omega
      have hsl := fun W => slice_keys_to W (some ⟨b, off, none⟩) (m + 1) c m hmc
      generalize climbS leaf (splitS n) i (initK path) = r at HC hq2 hql ⊢
      obtain ⟨q, x⟩ := r
      dsimp only at HC hq2 hql ⊢
      generalize lastK path = h0 at HR HH ⊢
      rw [hm]
      generalize splitS n = k at *
      have HNT : Hid (∀ W, Calls Tryz.prog 98 #[.agg (cellsB q).toArray, .agg (cellsB h0).toArray] W fun e w' => (∃ A c, e = .returned (.slice A 33 c) ∧ OB W.heap.size w' A c (nodeT q h0)) ∧ Below W.heap.size W w') := fun W => nodeText_any q h0 W (by first | exact hql | exact HH.out) (by first | exact HH.out | exact hql)
      have HNL : Hid ((nodeT q h0).length = 33) := by unfold Hid nodeT; simp [hql, HH.out]
      generalize nodeT q h0 = t at HNT HNL ⊢
      have HTK : Hid (∀ X d W, TX w0.heap.size W g (ts ++ x) → OB w0.heap.size W X d t → Calls Tryz.prog 95 #[.pointer (some ⟨g, 0, none⟩), .slice X 33 d] W fun e w' => e = .returned (.agg (cellsB (digS t)).toArray) ∧ TX w0.heap.size w' g ((ts ++ x) ++ [t]) ∧ KeepT W w' ∧ Below w0.heap.size W w') := fun X d W h1 h2 => take_any _ t X d g W HNL.out h1 h2 (by omega) (by rw [List.length_append]; omega)
      have HDL : Hid ((digS t).length = 16) := digS_length _
      generalize digS t = dg at HDL HTK ⊢
      have HBW : Hid (b < w0.heap.size) := hb
      clear ih h hp hm hw ht hts hq2 hr hhl hb hl
      go_enter Tryz.func152, Tryz.ntmps152
      go_wp2_with (go_at_call 113; rw [HZ.out]; refine (HSP.out _).mono ?_; rintro e w1 ⟨rfl, rfl⟩)
      obtain ⟨W0, hW0⟩ : ∃ W : World, W = (w.alloc (.cells (cellsB leaf).toArray 24)).alloc (.cells (cellsB zeroK).toArray 24) := ⟨_, rfl⟩
      rw [← hW0] at b0 B0 B1 HTX ⊢
      clear hW0
      refine wp_region_noPanic ?_
      have bw : Below w0.heap.size w0 W0.drew := HW.out.trans ((b0.mono hws).trans (Below.refl _ _).drew)
      refine wp_region_held_drew (S := fun w' => w'.rangeAt w.heap.size 0 (cellsB leaf) ∧ w'.rangeAt b (off + m * 16) (cellsB h0)) (by kernel_rfl) ⟨B0.out.drew.range, HR.out _ bw⟩ (fun hS => ?_)
      refine hd_take 0 (_) rfl rfl (by kernel_rfl) (by kernel_rfl) (by kernel_rfl) (fun _ _ _ h => h) (fun w _ => by go_simp <;> rfl) hS ?_
      refine hd_take 1 (_) rfl rfl (by kernel_rfl) (by kernel_rfl) (by kernel_rfl) (fun _ _ _ h => h) (fun w _ => by go_simp <;> rfl) hS ?_
      refine hd_take 3 (_) rfl rfl (by kernel_rfl) (by kernel_rfl) (by kernel_rfl) (fun _ _ _ h => h) (fun w _ => by go_simp <;> rfl) hS ?_
      refine hd_take 4 (_) rfl rfl (by kernel_rfl) (by kernel_rfl) (by kernel_rfl) (fun _ _ _ h => h) (fun w _ => by go_simp <;> rfl) hS ?_
      refine hd_take 5 (_) rfl rfl (by kernel_rfl) (by kernel_rfl) (by kernel_rfl) (fun _ _ _ h => h) (fun w _ => by go_simp <;> rfl) hS ?_
      refine hd_take 6 (_) rfl rfl (by kernel_rfl) (by kernel_rfl) (by kernel_rfl) (fun _ _ _ h => h) (fun w _ => by go_simp <;> rfl) hS ?_
      refine hd_take 9 (_) rfl rfl (by kernel_rfl) (by kernel_rfl) (by kernel_rfl) (fun _ _ _ h => h) (fun w _ => by go_simp <;> rfl) hS ?_
      refine hd_take 10 (_) rfl rfl (by kernel_rfl) (by kernel_rfl) (by kernel_rfl) (fun _ _ _ h => h) (fun w _ => by go_simp <;> rfl) hS ?_
      simp only [List.getElem_toArray, List.getElem_cons_succ, List.getElem_cons_zero, Act.put, List.setIfInBounds_toArray, List.set_cons_zero, List.set_cons_succ]
      refine hd_take 7 (_) rfl rfl (by kernel_rfl) (by kernel_rfl) (by kernel_rfl) (fun _ _ _ h => h) (fun w _ => by go_simp <;> rfl) hS ?_
      refine hd_take 11 (_) rfl rfl (by kernel_rfl) (by kernel_rfl) (by kernel_rfl) (fun _ _ _ h => h) (fun w _ => by go_simp <;> rfl) hS ?_
      simp only [List.getElem_toArray, List.getElem_cons_succ, List.getElem_cons_zero, Act.put, List.setIfInBounds_toArray, List.set_cons_zero, List.set_cons_succ]
      refine hd_load 2 w.heap.size 0 (cellsB leaf) _ _ rfl rfl rfl (by kernel_rfl) (by kernel_rfl) (by kernel_rfl) (fun _ _ _ h => h) rfl (fun w hw => hw.1) under_key rfl (key_info HK.out) hS ?_
      refine hd_load 12 b (off + m * 16) (cellsB h0) _ _ rfl rfl rfl (by kernel_rfl) (by kernel_rfl) (by kernel_rfl) (fun _ _ _ h => h) rfl (fun w hw => hw.2) under_key rfl (key_info HH.out) hS ?_
      simp only [List.getElem_toArray, List.getElem_cons_succ, List.getElem_cons_zero, Act.put, List.setIfInBounds_toArray, List.set_cons_zero, List.set_cons_succ]
      refine hd_calls 8 152 #[.pointer (some ⟨g, 0, none⟩), .agg (cellsB leaf).toArray, .int .i64 (k : Int), .int .i64 (i : Int), .slice (some ⟨b, off, none⟩) m c] rfl rfl (by kernel_rfl) (by go_simp) ((HC.out _ bw (HTX.out.below (Below.refl _ _).drew)).mono ?_)
      rintro e w3 ⟨rfl, ht3, hk3, hb3⟩
      have Q3 := hk3 _ _ B0.out.drew
      have R3 := hk3 _ _ B1.out.drew
      have b3 := bw.trans hb3
      have k3 : KeepT w w3 := ((KeepT.of_below b0).trans (KeepT.of_below (Below.refl _ _).drew)).trans hk3
      refine ⟨_, rfl, ⟨Q3.range, HR.out _ b3⟩, ?_⟩
      simp only [List.getElem_toArray, List.getElem_cons_succ, List.getElem_cons_zero, Act.put, List.setIfInBounds_toArray, List.set_cons_zero, List.set_cons_succ]
      refine hd_calls 13 98 #[.agg (cellsB q).toArray, .agg (cellsB h0).toArray] rfl rfl (by kernel_rfl) (by go_simp) ((HNT.out _).mono ?_)
      rintro e w4 ⟨⟨A4, c4, rfl, ho4⟩, hb4⟩
      have Q4 := Q3.below' hb4
      have R4 := R3.below' hb4
      have b4 := bel_on b3 hb4
      have t4 := ht3.below hb4
      have o4 := ho4.le_ b3.size
      refine ⟨_, rfl, ⟨Q4.range, HR.out _ b4⟩, ?_⟩
      simp only [List.getElem_toArray, List.getElem_cons_succ, List.getElem_cons_zero, Act.put, List.setIfInBounds_toArray, List.set_cons_zero, List.set_cons_succ]
      refine hd_calls 14 95 #[.pointer (some ⟨g, 0, none⟩), .slice A4 33 c4] rfl rfl (by kernel_rfl) (by go_simp) ((HTK.out _ _ _ t4 o4).mono ?_)
      rintro e w6 ⟨rfl, ht6, hk6, hb6⟩
      have Q6 := hk6 _ _ Q4
      have R6 := hk6 _ _ R4
      have b6 := b4.trans hb6
      have K6 : KeepT w w6 := (k3.trans (KeepT.of_below hb4)).trans hk6
      refine ⟨_, rfl, ⟨Q6.range, HR.out _ b6⟩, ?_⟩
      simp only [List.getElem_toArray, List.getElem_cons_succ, List.getElem_cons_zero, Act.put, List.setIfInBounds_toArray, List.set_cons_zero, List.set_cons_succ]
      have hS7 := And.intro (range_setRow Q6.range (g' := w.heap.size + 1) (by omega) (cellsB dg).toArray) (range_setRow (HR.out _ b6) (g' := w.heap.size + 1) (by have := HBW.out; omega) (cellsB dg).toArray)
      refine hd_store 15 (w.heap.size + 1) (cellsB dg).toArray _ _ _ rfl rfl rfl (by kernel_rfl) rfl rfl R6 (cellsB_size _ HDL.out) (by rw [List.size_toArray, List.size_toArray, cellsB_length, cellsB_length, HDL.out]; rfl) (all_oneCell_toArray (cells_one dg)) hS7 ?_
      refine wpAnyH_done (by kernel_rfl) (NoPanic.normal ?_) _
      simp only [List.getElem_toArray, List.getElem_cons_succ, List.getElem_cons_zero, Act.put, List.setIfInBounds_toArray, List.set_cons_zero, List.set_cons_succ]
      have HT6 := Lib.hid (ht6.row R6 (cellsB dg).toArray)
      have HK6 := Lib.hid (K6.rowAbove (g := w.heap.size + 1) (by omega) (cellsB dg).toArray)
      have HB6 := Lib.hid (below_setRow ((b0.mono hws).trans ((Below.refl _ W0).drew.trans ((hb3.trans (hb4.mono b3.size)).trans hb6))) (g := w.heap.size + 1) (by omega) (cellsB dg).toArray)
      have HQ6 := Lib.hid (R6.setRow (cellsB dg).toArray)
      clear ht6 t4 ht3 hk3 hk6 K6 k3 Q3 R3 Q4 R4 Q6 R6 hS hS7 o4 ho4
      go_wp2_with fail
      exact bodyPost_ret (results_cell_row rfl _ _ (w.heap.size + 1) _ _ (0, 0) _ rfl HQ6.out under_key rfl (cellsB_size _ HDL.out)) rfl ⟨rfl, by have := HT6.out; simpa only [List.append_assoc] using this, HK6.out, HB6.out⟩
    · have hki : ¬ (i : Int) < ((splitS n : Nat) : Int) := by omega
      have hki2 : ((splitS n : Nat) : Int) ≤ (i : Int) := by omega
      have hkn : ((splitS n : Nat) : Int) < (n : Int) := by omega
      have w1 : IntKind.i64.wrap ((n : Int) - ((splitS n : Nat) : Int)) = (n : Int) - ((splitS n : Nat) : Int) := by rw [IntKind.wrap_i64]; omega
      have w2 : IntKind.i64.wrap ((i : Int) - ((splitS n : Nat) : Int)) = (i : Int) - ((splitS n : Nat) : Int) := by rw [IntKind.wrap_i64]; omega
      obtain ⟨m, hm⟩ : ∃ m, path.length = m + 1 := ⟨path.length - 1, by rw [hp, stepsS_high h2 hk]; omega⟩
      rw [climbS_high _ _ h2 hk]
      have hq2 := climbS_le leaf (n - splitS n) (i - splitS n) (initK path) (by omega)
      have hql := climbS_length leaf (n - splitS n) (i - splitS n) (initK path)
      have HC : Hid (∀ W, Below w0.heap.size w0 W → TX w0.heap.size W g ts → Calls Tryz.prog 152 #[.pointer (some ⟨g, 0, none⟩), .agg (cellsB leaf).toArray, .int .i64 ((n : Int) - ((splitS n : Nat) : Int)), .int .i64 ((i : Int) - ((splitS n : Nat) : Int)), .slice A m c] W fun e w' => e = .returned (.agg (cellsB (climbS leaf (n - splitS n) (i - splitS n) (initK path)).1).toArray) ∧ TX w0.heap.size w' g (ts ++ (climbS leaf (n - splitS n) (i - splitS n) (initK path)).2) ∧ KeepT W w' ∧ Below w0.heap.size W w') := fun W hW hT => by
        have hlen : m = (initK path).length := by rw [initK_length, hm]; omega
        rw [hlen]
        exact (by
        rw [show (n : Int) - ((splitS n : Nat) : Int) = ((n - splitS n : Nat) : Int) from by omega, show (i : Int) - ((splitS n : Nat) : Int) = ((i - splitS n : Nat) : Int) from by omega]
        exact ih (n - splitS n) (by omega) (i - splitS n) (initK path) A c ts W (by omega) (by omega) (by omega) (by rw [initK_length, hp, stepsS_high h2 hk]; omega) h.init hW hT (by omega))
      obtain ⟨b, off, rfl, hb, hr, hhl⟩ := h.lastAt hm
      have HR : Hid (∀ W, Below w0.heap.size w0 W → W.rangeAt b (off + m * 16) (cellsB (lastK path))) := fun W hW => range_below hr hW
      have HH := Lib.hid hhl
      have hmi : (m : Int) ≤ 140737488351232 := by omega
      have hmc : m ≤ c := by omega
      have hmlt : (m : Int) < (m : Int) + 1 := by omega
      have hsl := fun W => slice_keys_to W (some ⟨b, off, none⟩) (m + 1) c m hmc
      generalize climbS leaf (n - splitS n) (i - splitS n) (initK path) = r at HC hq2 hql ⊢
      obtain ⟨q, x⟩ := r
      dsimp only at HC hq2 hql ⊢
      generalize lastK path = h0 at HR HH ⊢
      rw [hm]
      generalize splitS n = k at *
      have HNT : Hid (∀ W, Calls Tryz.prog 98 #[.agg (cellsB h0).toArray, .agg (cellsB q).toArray] W fun e w' => (∃ A c, e = .returned (.slice A 33 c) ∧ OB W.heap.size w' A c (nodeT h0 q)) ∧ Below W.heap.size W w') := fun W => nodeText_any h0 q W (by first | exact hql | exact HH.out) (by first | exact HH.out | exact hql)
      have HNL : Hid ((nodeT h0 q).length = 33) := by unfold Hid nodeT; simp [hql, HH.out]
      generalize nodeT h0 q = t at HNT HNL ⊢
      have HTK : Hid (∀ X d W, TX w0.heap.size W g (ts ++ x) → OB w0.heap.size W X d t → Calls Tryz.prog 95 #[.pointer (some ⟨g, 0, none⟩), .slice X 33 d] W fun e w' => e = .returned (.agg (cellsB (digS t)).toArray) ∧ TX w0.heap.size w' g ((ts ++ x) ++ [t]) ∧ KeepT W w' ∧ Below w0.heap.size W w') := fun X d W h1 h2 => take_any _ t X d g W HNL.out h1 h2 (by omega) (by rw [List.length_append]; omega)
      have HDL : Hid ((digS t).length = 16) := digS_length _
      generalize digS t = dg at HDL HTK ⊢
      have HBW : Hid (b < w0.heap.size) := hb
      clear ih h hp hm hw ht hts hq2 hr hhl hb hl
      go_enter Tryz.func152, Tryz.ntmps152
      go_wp2_with (go_at_call 113; rw [HZ.out]; refine (HSP.out _).mono ?_; rintro e w1 ⟨rfl, rfl⟩)
      obtain ⟨W0, hW0⟩ : ∃ W : World, W = (w.alloc (.cells (cellsB leaf).toArray 24)).alloc (.cells (cellsB zeroK).toArray 24) := ⟨_, rfl⟩
      rw [← hW0] at b0 B0 B1 HTX ⊢
      clear hW0
      refine wp_region_noPanic ?_
      have bw : Below w0.heap.size w0 W0.drew := HW.out.trans ((b0.mono hws).trans (Below.refl _ _).drew)
      refine wp_region_held_drew (S := fun w' => w'.rangeAt w.heap.size 0 (cellsB leaf) ∧ w'.rangeAt b (off + m * 16) (cellsB h0)) (by kernel_rfl) ⟨B0.out.drew.range, HR.out _ bw⟩ (fun hS => ?_)
      refine hd_take 0 (_) rfl rfl (by kernel_rfl) (by kernel_rfl) (by kernel_rfl) (fun _ _ _ h => h) (fun w _ => by go_simp <;> rfl) hS ?_
      refine hd_take 1 (_) rfl rfl (by kernel_rfl) (by kernel_rfl) (by kernel_rfl) (fun _ _ _ h => h) (fun w _ => by go_simp <;> rfl) hS ?_
      refine hd_take 2 (_) rfl rfl (by kernel_rfl) (by kernel_rfl) (by kernel_rfl) (fun _ _ _ h => h) (fun w _ => by go_simp <;> rfl) hS ?_
      refine hd_take 5 (_) rfl rfl (by kernel_rfl) (by kernel_rfl) (by kernel_rfl) (fun _ _ _ h => h) (fun w _ => by go_simp <;> rfl) hS ?_
      refine hd_take 7 (_) rfl rfl (by kernel_rfl) (by kernel_rfl) (by kernel_rfl) (fun _ _ _ h => h) (fun w _ => by go_simp <;> rfl) hS ?_
      refine hd_take 8 (_) rfl rfl (by kernel_rfl) (by kernel_rfl) (by kernel_rfl) (fun _ _ _ h => h) (fun w _ => by go_simp <;> rfl) hS ?_
      refine hd_take 10 (_) rfl rfl (by kernel_rfl) (by kernel_rfl) (by kernel_rfl) (fun _ _ _ h => h) (fun w _ => by go_simp <;> rfl) hS ?_
      refine hd_take 11 (_) rfl rfl (by kernel_rfl) (by kernel_rfl) (by kernel_rfl) (fun _ _ _ h => h) (fun w _ => by go_simp <;> rfl) hS ?_
      refine hd_take 13 (_) rfl rfl (by kernel_rfl) (by kernel_rfl) (by kernel_rfl) (fun _ _ _ h => h) (fun w _ => by go_simp <;> rfl) hS ?_
      refine hd_take 14 (_) rfl rfl (by kernel_rfl) (by kernel_rfl) (by kernel_rfl) (fun _ _ _ h => h) (fun w _ => by go_simp <;> rfl) hS ?_
      simp only [List.getElem_toArray, List.getElem_cons_succ, List.getElem_cons_zero, Act.put, List.setIfInBounds_toArray, List.set_cons_zero, List.set_cons_succ]
      refine hd_take 3 (_) rfl rfl (by kernel_rfl) (by kernel_rfl) (by kernel_rfl) (fun _ _ _ h => h) (fun w _ => by go_simp <;> rfl) hS ?_
      refine hd_take 9 (_) rfl rfl (by kernel_rfl) (by kernel_rfl) (by kernel_rfl) (fun _ _ _ h => h) (fun w _ => by go_simp <;> rfl) hS ?_
      refine hd_take 12 (_) rfl rfl (by kernel_rfl) (by kernel_rfl) (by kernel_rfl) (fun _ _ _ h => h) (fun w _ => by go_simp <;> rfl) hS ?_
      refine hd_take 15 (_) rfl rfl (by kernel_rfl) (by kernel_rfl) (by kernel_rfl) (fun _ _ _ h => h) (fun w _ => by go_simp <;> rfl) hS ?_
      simp only [List.getElem_toArray, List.getElem_cons_succ, List.getElem_cons_zero, Act.put, List.setIfInBounds_toArray, List.set_cons_zero, List.set_cons_succ]
      refine hd_load 6 w.heap.size 0 (cellsB leaf) _ _ rfl rfl rfl (by kernel_rfl) (by kernel_rfl) (by kernel_rfl) (fun _ _ _ h => h) rfl (fun w hw => hw.1) under_key rfl (key_info HK.out) hS ?_
      refine hd_load 4 b (off + m * 16) (cellsB h0) _ _ rfl rfl rfl (by kernel_rfl) (by kernel_rfl) (by kernel_rfl) (fun _ _ _ h => h) rfl (fun w hw => hw.2) under_key rfl (key_info HH.out) hS ?_
      simp only [List.getElem_toArray, List.getElem_cons_succ, List.getElem_cons_zero, Act.put, List.setIfInBounds_toArray, List.set_cons_zero, List.set_cons_succ]
      refine hd_calls 16 152 #[.pointer (some ⟨g, 0, none⟩), .agg (cellsB leaf).toArray, .int .i64 ((n : Int) - (k : Int)), .int .i64 ((i : Int) - (k : Int)), .slice (some ⟨b, off, none⟩) m c] rfl rfl (by kernel_rfl) (by go_simp) ((HC.out _ bw (HTX.out.below (Below.refl _ _).drew)).mono ?_)
      rintro e w3 ⟨rfl, ht3, hk3, hb3⟩
      have Q3 := hk3 _ _ B0.out.drew
      have R3 := hk3 _ _ B1.out.drew
      have b3 := bw.trans hb3
      have k3 : KeepT w w3 := ((KeepT.of_below b0).trans (KeepT.of_below (Below.refl _ _).drew)).trans hk3
      refine ⟨_, rfl, ⟨Q3.range, HR.out _ b3⟩, ?_⟩
      simp only [List.getElem_toArray, List.getElem_cons_succ, List.getElem_cons_zero, Act.put, List.setIfInBounds_toArray, List.set_cons_zero, List.set_cons_succ]
      refine hd_calls 17 98 #[.agg (cellsB h0).toArray, .agg (cellsB q).toArray] rfl rfl (by kernel_rfl) (by go_simp) ((HNT.out _).mono ?_)
      rintro e w4 ⟨⟨A4, c4, rfl, ho4⟩, hb4⟩
      have Q4 := Q3.below' hb4
      have R4 := R3.below' hb4
      have b4 := bel_on b3 hb4
      have t4 := ht3.below hb4
      have o4 := ho4.le_ b3.size
      refine ⟨_, rfl, ⟨Q4.range, HR.out _ b4⟩, ?_⟩
      simp only [List.getElem_toArray, List.getElem_cons_succ, List.getElem_cons_zero, Act.put, List.setIfInBounds_toArray, List.set_cons_zero, List.set_cons_succ]
      refine hd_calls 18 95 #[.pointer (some ⟨g, 0, none⟩), .slice A4 33 c4] rfl rfl (by kernel_rfl) (by go_simp) ((HTK.out _ _ _ t4 o4).mono ?_)
      rintro e w6 ⟨rfl, ht6, hk6, hb6⟩
      have Q6 := hk6 _ _ Q4
      have R6 := hk6 _ _ R4
      have b6 := b4.trans hb6
      have K6 : KeepT w w6 := (k3.trans (KeepT.of_below hb4)).trans hk6
      refine ⟨_, rfl, ⟨Q6.range, HR.out _ b6⟩, ?_⟩
      simp only [List.getElem_toArray, List.getElem_cons_succ, List.getElem_cons_zero, Act.put, List.setIfInBounds_toArray, List.set_cons_zero, List.set_cons_succ]
      have hS7 := And.intro (range_setRow Q6.range (g' := w.heap.size + 1) (by omega) (cellsB dg).toArray) (range_setRow (HR.out _ b6) (g' := w.heap.size + 1) (by have := HBW.out; omega) (cellsB dg).toArray)
      refine hd_store 19 (w.heap.size + 1) (cellsB dg).toArray _ _ _ rfl rfl rfl (by kernel_rfl) rfl rfl R6 (cellsB_size _ HDL.out) (by rw [List.size_toArray, List.size_toArray, cellsB_length, cellsB_length, HDL.out]; rfl) (all_oneCell_toArray (cells_one dg)) hS7 ?_
      refine wpAnyH_done (by kernel_rfl) (NoPanic.normal ?_) _
      simp only [List.getElem_toArray, List.getElem_cons_succ, List.getElem_cons_zero, Act.put, List.setIfInBounds_toArray, List.set_cons_zero, List.set_cons_succ]
      have HT6 := Lib.hid (ht6.row R6 (cellsB dg).toArray)
      have HK6 := Lib.hid (K6.rowAbove (g := w.heap.size + 1) (by omega) (cellsB dg).toArray)
      have HB6 := Lib.hid (below_setRow ((b0.mono hws).trans ((Below.refl _ W0).drew.trans ((hb3.trans (hb4.mono b3.size)).trans hb6))) (g := w.heap.size + 1) (by omega) (cellsB dg).toArray)
      have HQ6 := Lib.hid (R6.setRow (cellsB dg).toArray)
      clear ht6 t4 ht3 hk3 hk6 K6 k3 Q3 R3 Q4 R4 Q6 R6 hS hS7 o4 ho4
      go_wp2_with fail
      exact bodyPost_ret (results_cell_row rfl _ _ (w.heap.size + 1) _ _ (0, 0) _ rfl HQ6.out under_key rfl (cellsB_size _ HDL.out)) rfl ⟨rfl, by have := HT6.out; simpa only [List.append_assoc] using this, HK6.out, HB6.out⟩
end Go.Proofs.YtinpiodfpnbllaaGreatDoor

/- Which proofs and growths fit: the program's test. -/
namespace Go.Proofs.YtinpiodfpnbllaaGreatDoor
open Go.RowKit
set_option linter.unusedVariables false
set_option linter.unusedSimpArgs false

def fitsB (a b : Int) (n : Nat) : Bool := decide (1 ≤ a ∧ a ≤ 128 ∧ 0 ≤ b ∧ b < a) && decide (n = stepsS a.toNat b.toNat)
def fitsGB (a b : Int) (n : Nat) : Bool := decide (1 ≤ a ∧ a ≤ b ∧ b ≤ 128) && decide (n = partsS b.toNat a.toNat true)
theorem fitsB_no {a b : Int} {n : Nat} (h : ¬ (1 ≤ a ∧ a ≤ 128 ∧ 0 ≤ b ∧ b < a)) : fitsB a b n = false := by unfold fitsB; rw [decide_eq_false h]; rfl
theorem fitsB_in {a b : Int} {n : Nat} (h : 1 ≤ a ∧ a ≤ 128 ∧ 0 ≤ b ∧ b < a) : fitsB a b n = decide (n = stepsS a.toNat b.toNat) := by unfold fitsB; rw [decide_eq_true h]; rfl
theorem fitsGB_no {a b : Int} {n : Nat} (h : ¬ (1 ≤ a ∧ a ≤ b ∧ b ≤ 128)) : fitsGB a b n = false := by unfold fitsGB; rw [decide_eq_false h]; rfl
theorem fitsGB_in {a b : Int} {n : Nat} (h : 1 ≤ a ∧ a ≤ b ∧ b ≤ 128) : fitsGB a b n = decide (n = partsS b.toNat a.toNat true) := by unfold fitsGB; rw [decide_eq_true h]; rfl
theorem fitsB_iff {a b : Int} {n : Nat} : fitsB a b n = true ↔ (1 ≤ a ∧ a ≤ 128 ∧ 0 ≤ b ∧ b < a) ∧ n = stepsS a.toNat b.toNat := by simp [fitsB]
theorem fitsGB_iff {a b : Int} {n : Nat} : fitsGB a b n = true ↔ (1 ≤ a ∧ a ≤ b ∧ b ≤ 128) ∧ n = partsS b.toNat a.toNat true := by simp [fitsGB]

set_option maxHeartbeats 2000000 in
set_option maxRecDepth 100000 in
theorem fits_any (a b : Int) (A : Option Addr) (n c : Nat) (w : World) (hn : n ≤ 140737488351232) :
    Calls Tryz.prog 73 #[.agg (prC a b A n c).toArray] w fun e w' => e = .returned (.bool (fitsB a b n)) ∧ Below w.heap.size w w' := by
  have b0 := alloc_bel w (.cells #[.int .i64 a, .int .i64 b, .slice A n c] 27)
  have hni : (n : Int) ≤ 140737488351232 := by omega
  unfold prC
  rcases (by omega : a < 1 ∨ (1 ≤ a ∧ 128 < a) ∨ (1 ≤ a ∧ a ≤ 128 ∧ b < 0) ∨ (1 ≤ a ∧ a ≤ 128 ∧ 0 ≤ b ∧ a ≤ b) ∨ (1 ≤ a ∧ a ≤ 128 ∧ 0 ≤ b ∧ b < a)) with h | ⟨h1, h2⟩ | ⟨h1, h2, h3⟩ | ⟨h1, h2, h3, h4⟩ | ⟨h1, h2, h3, h4⟩
  · have HF : Hid (fitsB a b n = false) := fitsB_no (by omega)
    go_enter Tryz.func73, Tryz.ntmps73
    go_wp2
    go_ret
    exact ⟨by rw [HF.out]; rfl, b0⟩
  · have HF : Hid (fitsB a b n = false) := fitsB_no (by omega)
    go_enter Tryz.func73, Tryz.ntmps73
    go_wp2
    go_ret
    exact ⟨by rw [HF.out]; rfl, b0⟩
  · have HF : Hid (fitsB a b n = false) := fitsB_no (by omega)
    go_enter Tryz.func73, Tryz.ntmps73
    go_wp2
    go_ret
    exact ⟨by rw [HF.out]; rfl, b0⟩
  · have HF : Hid (fitsB a b n = false) := fitsB_no (by omega)
    go_enter Tryz.func73, Tryz.ntmps73
    go_wp2
    go_ret
    exact ⟨by rw [HF.out]; rfl, b0⟩
  · have HF : Hid (fitsB a b n = decide (n = stepsS a.toNat b.toNat)) := fitsB_in ⟨h1, h2, h3, h4⟩
    obtain ⟨p, rfl⟩ : ∃ p : Nat, a = (p : Int) := ⟨a.toNat, by omega⟩
    obtain ⟨q, rfl⟩ : ∃ q : Nat, b = (q : Int) := ⟨b.toNat, by omega⟩
    rw [Int.toNat_natCast, Int.toNat_natCast] at HF
    obtain ⟨T, hT⟩ : ∃ T, stepsS p q = T := ⟨_, rfl⟩
    have HT := Lib.hid hT
    rw [hT] at HF
    clear hT
    have hqp : q < p := by omega
    have hp1 : 1 ≤ p := by omega
    have hp2 : p ≤ 128 := by omega
    have HB0 := Lib.hid b0
    have c0 : Hid ((w.alloc (.cells #[.int .i64 (p : Int), .int .i64 (q : Int), .slice A n c] 27)).cell? ⟨w.heap.size, 0, none⟩ = some (.int .i64 (p : Int))) := (Blk.new w _ _).cell 0
    have c1 : Hid ((w.alloc (.cells #[.int .i64 (p : Int), .int .i64 (q : Int), .slice A n c] 27)).cell? ⟨w.heap.size, 1, none⟩ = some (.int .i64 (q : Int))) := (Blk.new w _ _).cell 1
    have c2 : Hid ((w.alloc (.cells #[.int .i64 (p : Int), .int .i64 (q : Int), .slice A n c] 27)).cell? ⟨w.heap.size, 2, none⟩ = some (.slice A n c)) := (Blk.new w _ _).cell 2
    clear b0
    go_enter Tryz.func73, Tryz.ntmps73
    go_wp2_with fail
    generalize w.alloc (.cells #[.int .i64 (p : Int), .int .i64 (q : Int), .slice A n c] 27) = W0 at HB0 c0 c1 c2 ⊢
    refine wp_region_noPanic ?_
    refine wp_region_held_drew (S := fun w' => w'.cell? ⟨w.heap.size, 0, none⟩ = some (.int .i64 (p : Int)) ∧ w'.cell? ⟨w.heap.size, 1, none⟩ = some (.int .i64 (q : Int))) (by kernel_rfl) ⟨c0.out, c1.out⟩ (fun hS => ?_)
    refine hd_take 0 (_) rfl rfl (by kernel_rfl) (by kernel_rfl) (by kernel_rfl) (fun _ _ _ h => h) (fun w _ => by go_simp <;> rfl) hS ?_
    refine hd_take 2 (_) rfl rfl (by kernel_rfl) (by kernel_rfl) (by kernel_rfl) (fun _ _ _ h => h) (fun w _ => by go_simp <;> rfl) hS ?_
    simp only [List.getElem_toArray, List.getElem_cons_succ, List.getElem_cons_zero, Act.put, List.setIfInBounds_toArray, List.set_cons_zero, List.set_cons_succ]
    refine hd_take 1 (.int .i64 (p : Int)) rfl rfl (by kernel_rfl) (by kernel_rfl) (by kernel_rfl) (fun _ _ _ h => h) (fun w hw => by have hx := hw.1; simp [go_sem, hx]) hS ?_
    refine hd_take 3 (.int .i64 (q : Int)) rfl rfl (by kernel_rfl) (by kernel_rfl) (by kernel_rfl) (fun _ _ _ h => h) (fun w hw => by have hx := hw.2; simp [go_sem, hx]) hS ?_
    simp only [List.getElem_toArray, List.getElem_cons_succ, List.getElem_cons_zero, Act.put, List.setIfInBounds_toArray, List.set_cons_zero, List.set_cons_succ]
    refine hd_take 4 (_) rfl rfl (by kernel_rfl) (by kernel_rfl) (by kernel_rfl) (fun _ _ _ h => h) (fun w _ => by go_simp <;> rfl) hS ?_
    refine hd_take 5 (_) rfl rfl (by kernel_rfl) (by kernel_rfl) (by kernel_rfl) (fun _ _ _ h => h) (fun w _ => by go_simp <;> rfl) hS ?_
    simp only [List.getElem_toArray, List.getElem_cons_succ, List.getElem_cons_zero, Act.put, List.setIfInBounds_toArray, List.set_cons_zero, List.set_cons_succ]
    refine wpAnyH_done (by kernel_rfl) (NoPanic.normal ?_) _
    have C2 : W0.drew.cell? ⟨w.heap.size, 2, none⟩ = some (.slice A n c) := c2.out
    have HD := Lib.hid (HB0.out.drew)
    generalize W0.drew = W1 at C2 HD ⊢
    clear hS c0 c1 c2 HB0
    go_wp2_with fail
    have e1 : decide ((p : Int) < 1) = false := decide_eq_false (by omega)
    have e2 : decide ((128 : Int) < (p : Int)) = false := decide_eq_false (by omega)
    have e3 : decide ((q : Int) < 0) = false := decide_eq_false (by omega)
    have e4 : decide (p ≤ q) = false := decide_eq_false (by omega)
    simp only [e1, e2, e3, e4, Bool.or_false]
    clear e1 e2 e3 e4
    go_loop [3, 4, 5] (fun v3 v4 v5 => ∃ s k j : Nat, v3 = .int .i64 (s : Int) ∧ v4 = .int .i64 (k : Int) ∧ v5 = .int .i64 (j : Int) ∧ 1 ≤ k ∧ j < k ∧ s + k ≤ 129 ∧ s + stepsS k j = T) (fun _ v4 _ => (intOf v4).toNat)
    case atStart => exact ⟨0, p, q, rfl, rfl, rfl, hp1, hqp, by omega, by rw [HT.out]; omega⟩
    case round =>
      obtain ⟨s, k, j, rfl, rfl, rfl, hk1, hjk, hsk, hst⟩ := hrel
      by_cases hk2 : 2 ≤ k
      · have hs1 := splitS_pos k
        have hs2 := splitS_lt hk2
        have hkb : (k : Int) ≤ 129 := by omega
        have hsb : (s : Int) ≤ 129 := by omega
        have hgt : (1 : Int) < (k : Int) := by omega
        have HSP : Hid (∀ W, Calls Tryz.prog 113 #[.int .i64 (k : Int)] W fun e w' => e = .returned (.int .i64 ((splitS k : Nat) : Int)) ∧ W = w') := fun W => split_any k W hk2 (by omega)
        by_cases hlt : j < splitS k
        · have HN : Hid (s + 1 + stepsS (splitS k) j = T) := by unfold Hid; rw [← hst, stepsS_low hk2 hlt]; omega
          generalize splitS k = m at *
          have hji : (j : Int) < (m : Int) := by omega
          clear hst
          go_wp2_with (go_at_call 113; refine (HSP.out _).mono ?_; rintro e w1 ⟨rfl, rfl⟩)
          go_round
          case rel => exact ⟨s + 1, m, j, by go_num, rfl, rfl, hs1, hlt, by omega, HN.out⟩
          case measure => simp [intOf]; omega
        · have HN : Hid (s + 1 + stepsS (k - splitS k) (j - splitS k) = T) := by unfold Hid; rw [← hst, stepsS_high hk2 hlt]; omega
          generalize splitS k = m at *
          have hji : ¬ (j : Int) < (m : Int) := by omega
          have hmj : (m : Int) ≤ (j : Int) := by omega
          have hmk : (m : Int) < (k : Int) := by omega
          clear hst
          go_wp2_with (go_at_call 113; refine (HSP.out _).mono ?_; rintro e w1 ⟨rfl, rfl⟩)
          go_round
          case rel => exact ⟨s + 1, k - m, j - m, by go_num, by rw [show ((k - m : Nat) : Int) = (k : Int) - (m : Int) from by omega], by rw [show ((j - m : Nat) : Int) = (j : Int) - (m : Int) from by omega], by omega, by omega, by omega, HN.out⟩
          case measure => simp [intOf]; omega
      · obtain rfl : k = 1 := by omega
        have hs : s = T := by rw [stepsS_one (by omega)] at hst; omega
        subst hs
        clear hst
        by_cases he : n = s
        · subst he
          have HF' : Hid (fitsB (p : Int) (q : Int) n = true) := by unfold Hid; rw [HF.out]; simp
          clear HF HT
          go_wp2_with fail
          go_ret
          exact ⟨by rw [HF'.out]; rfl, HD.out⟩
        · have HF' : Hid (fitsB (p : Int) (q : Int) n = false) := by unfold Hid; rw [HF.out]; simp [he]
          have hei : ((n : Int) == (s : Int)) = false := by rw [beq_eq_false_iff_ne]; omega
          clear HF HT
          go_wp2_with fail
          go_ret
          exact ⟨by rw [HF'.out]; rfl, HD.out⟩

set_option maxHeartbeats 2000000 in
set_option maxRecDepth 100000 in
theorem fitsGrowth_any (a b : Int) (A : Option Addr) (n c : Nat) (w : World) (hn : n ≤ 140737488351232) :
    Calls Tryz.prog 103 #[.agg (prC a b A n c).toArray] w fun e w' => e = .returned (.bool (fitsGB a b n)) ∧ Below w.heap.size w w' := by
  have b0 := alloc_bel w (.cells #[.int .i64 a, .int .i64 b, .slice A n c] 80)
  have hni : (n : Int) ≤ 140737488351232 := by omega
  unfold prC
  rcases (by omega : a < 1 ∨ (1 ≤ a ∧ b < a) ∨ (1 ≤ a ∧ a ≤ b ∧ 128 < b) ∨ (1 ≤ a ∧ a ≤ b ∧ b ≤ 128)) with h | ⟨h1, h2⟩ | ⟨h1, h2, h3⟩ | ⟨h1, h2, h3⟩
  · have HF : Hid (fitsGB a b n = false) := fitsGB_no (by omega)
    go_enter Tryz.func103, Tryz.ntmps103
    go_wp2
    go_ret
    exact ⟨by rw [HF.out]; rfl, b0⟩
  · have HF : Hid (fitsGB a b n = false) := fitsGB_no (by omega)
    go_enter Tryz.func103, Tryz.ntmps103
    go_wp2
    go_ret
    exact ⟨by rw [HF.out]; rfl, b0⟩
  · have HF : Hid (fitsGB a b n = false) := fitsGB_no (by omega)
    go_enter Tryz.func103, Tryz.ntmps103
    go_wp2
    go_ret
    exact ⟨by rw [HF.out]; rfl, b0⟩
  · have HF : Hid (fitsGB a b n = decide (n = partsS b.toNat a.toNat true)) := fitsGB_in ⟨h1, h2, h3⟩
    obtain ⟨q, rfl⟩ : ∃ q : Nat, a = (q : Int) := ⟨a.toNat, by omega⟩
    obtain ⟨p, rfl⟩ : ∃ p : Nat, b = (p : Int) := ⟨b.toNat, by omega⟩
    rw [Int.toNat_natCast, Int.toNat_natCast] at HF
    obtain ⟨T, hT⟩ : ∃ T, partsS p q true = T := ⟨_, rfl⟩
    have HT := Lib.hid hT
    rw [hT] at HF
    clear hT
    have hqp : q ≤ p := by omega
    have hp1 : 1 ≤ q := by omega
    have hp2 : p ≤ 128 := by omega
    have HB0 := Lib.hid b0
    have c0 : Hid ((w.alloc (.cells #[.int .i64 (q : Int), .int .i64 (p : Int), .slice A n c] 80)).cell? ⟨w.heap.size, 0, none⟩ = some (.int .i64 (q : Int))) := (Blk.new w _ _).cell 0
    have c1 : Hid ((w.alloc (.cells #[.int .i64 (q : Int), .int .i64 (p : Int), .slice A n c] 80)).cell? ⟨w.heap.size, 1, none⟩ = some (.int .i64 (p : Int))) := (Blk.new w _ _).cell 1
    have c2 : Hid ((w.alloc (.cells #[.int .i64 (q : Int), .int .i64 (p : Int), .slice A n c] 80)).cell? ⟨w.heap.size, 2, none⟩ = some (.slice A n c)) := (Blk.new w _ _).cell 2
    clear b0
    go_enter Tryz.func103, Tryz.ntmps103
    go_wp2_with fail
    generalize w.alloc (.cells #[.int .i64 (q : Int), .int .i64 (p : Int), .slice A n c] 80) = W0 at HB0 c0 c1 c2 ⊢
    refine wp_region_noPanic ?_
    refine wp_region_held_drew (S := fun w' => w'.cell? ⟨w.heap.size, 0, none⟩ = some (.int .i64 (q : Int)) ∧ w'.cell? ⟨w.heap.size, 1, none⟩ = some (.int .i64 (p : Int))) (by kernel_rfl) ⟨c0.out, c1.out⟩ (fun hS => ?_)
    refine hd_take 0 (_) rfl rfl (by kernel_rfl) (by kernel_rfl) (by kernel_rfl) (fun _ _ _ h => h) (fun w _ => by go_simp <;> rfl) hS ?_
    refine hd_take 2 (_) rfl rfl (by kernel_rfl) (by kernel_rfl) (by kernel_rfl) (fun _ _ _ h => h) (fun w _ => by go_simp <;> rfl) hS ?_
    simp only [List.getElem_toArray, List.getElem_cons_succ, List.getElem_cons_zero, Act.put, List.setIfInBounds_toArray, List.set_cons_zero, List.set_cons_succ]
    refine hd_take 1 (.int .i64 (p : Int)) rfl rfl (by kernel_rfl) (by kernel_rfl) (by kernel_rfl) (fun _ _ _ h => h) (fun w hw => by have hx := hw.2; simp [go_sem, hx]) hS ?_
    refine hd_take 3 (.int .i64 (q : Int)) rfl rfl (by kernel_rfl) (by kernel_rfl) (by kernel_rfl) (fun _ _ _ h => h) (fun w hw => by have hx := hw.1; simp [go_sem, hx]) hS ?_
    simp only [List.getElem_toArray, List.getElem_cons_succ, List.getElem_cons_zero, Act.put, List.setIfInBounds_toArray, List.set_cons_zero, List.set_cons_succ]
    refine hd_take 4 (_) rfl rfl (by kernel_rfl) (by kernel_rfl) (by kernel_rfl) (fun _ _ _ h => h) (fun w _ => by go_simp <;> rfl) hS ?_
    refine hd_take 5 (_) rfl rfl (by kernel_rfl) (by kernel_rfl) (by kernel_rfl) (fun _ _ _ h => h) (fun w _ => by go_simp <;> rfl) hS ?_
    simp only [List.getElem_toArray, List.getElem_cons_succ, List.getElem_cons_zero, Act.put, List.setIfInBounds_toArray, List.set_cons_zero, List.set_cons_succ]
    refine wpAnyH_done (by kernel_rfl) (NoPanic.normal ?_) _
    have C2 : W0.drew.cell? ⟨w.heap.size, 2, none⟩ = some (.slice A n c) := c2.out
    have HD := Lib.hid (HB0.out.drew)
    generalize W0.drew = W1 at C2 HD ⊢
    clear hS c0 c1 c2 HB0
    go_wp2_with fail
    have e1 : decide ((q : Int) < 1) = false := decide_eq_false (by omega)
    have e2 : decide ((128 : Int) < (p : Int)) = false := decide_eq_false (by omega)
    have e4 : decide (p < q) = false := decide_eq_false (by omega)
    simp only [e1, e2, e4, Bool.or_false]
    clear e1 e2 e4
    go_loop [3, 4, 5, 6] (fun v3 v4 v5 v6 => ∃ (s z k j : Nat) (wh : Bool), v3 = .int .i64 (s : Int) ∧ v4 = .int .i64 (z : Int) ∧ v5 = .int .i64 (k : Int) ∧ v6 = .int .i64 (j : Int) ∧ 1 ≤ j ∧ j ≤ k ∧ s + k ≤ 129 ∧ z = (if wh then 0 else 1) ∧ s + partsS k j wh = T) (fun _ _ v5 _ => (intOf v5).toNat)
    case atStart => exact ⟨0, 0, p, q, true, rfl, rfl, rfl, rfl, hp1, hqp, by omega, rfl, by rw [HT.out]; omega⟩
    case round =>
      obtain ⟨s, z, k, j, wh, rfl, rfl, rfl, rfl, hj1, hjk, hsk, hz, hst⟩ := hrel
      have HZ := Lib.hid hz
      have hz1 : z ≤ 1 := by rw [hz]; split <;> omega
      clear hz
      by_cases hk2 : j < k
      · have hs1 := splitS_pos k
        have hs2 := splitS_lt (n := k) (by omega)
        have hkb : (k : Int) ≤ 129 := by omega
        have hsb : (s : Int) ≤ 129 := by omega
        have hgt : (j : Int) < (k : Int) := by omega
        have HSP : Hid (∀ W, Calls Tryz.prog 113 #[.int .i64 (k : Int)] W fun e w' => e = .returned (.int .i64 ((splitS k : Nat) : Int)) ∧ W = w') := fun W => split_any k W (by omega) (by omega)
        by_cases hlt : j ≤ splitS k
        · have HN : Hid (s + 1 + partsS (splitS k) j wh = T) := by unfold Hid; rw [← hst, partsS_low _ (by omega) (by omega) hlt]; omega
          generalize splitS k = m at *
          have hji : (j : Int) ≤ (m : Int) := by omega
          clear hst
          go_wp2_with (go_at_call 113; refine (HSP.out _).mono ?_; rintro e w1 ⟨rfl, rfl⟩)
          go_round
          case rel => exact ⟨s + 1, z, m, j, wh, by go_num, rfl, rfl, rfl, hj1, hlt, by omega, HZ.out, HN.out⟩
          case measure => simp [intOf]; omega
        · have HN : Hid (s + 1 + partsS (k - splitS k) (j - splitS k) false = T) := by unfold Hid; rw [← hst, partsS_high _ (by omega) (by omega) hlt]; omega
          generalize splitS k = m at *
          have hji : ¬ (j : Int) ≤ (m : Int) := by omega
          have hmj : (m : Int) < (j : Int) := by omega
          have hmk : (m : Int) < (k : Int) := by omega
          clear hst
          go_wp2_with (go_at_call 113; refine (HSP.out _).mono ?_; rintro e w1 ⟨rfl, rfl⟩)
          go_round
          case rel => exact ⟨s + 1, 1, k - m, j - m, false, by go_num, rfl, by rw [show ((k - m : Nat) : Int) = (k : Int) - (m : Int) from by omega], by rw [show ((j - m : Nat) : Int) = (j : Int) - (m : Int) from by omega], by omega, by omega, by omega, rfl, HN.out⟩
          case measure => simp [intOf]; omega
      · obtain rfl : j = k := by omega
        have hs : s + z = T := by rw [HZ.out, ← hst, partsS_end]
        subst hs
        have hge : ¬ (j : Int) < (j : Int) := by omega
        have hzi : (z : Int) ≤ 1 := by omega
        have hsb : (s : Int) ≤ 129 := by omega
        clear hst
        by_cases he : n = s + z
        · have HF' : Hid (fitsGB (q : Int) (p : Int) n = true) := by unfold Hid; rw [HF.out]; simp [he]
          have hei : (n : Int) = (s : Int) + (z : Int) := by omega
          clear HF HT HZ
          subst he
          go_wp2_with fail
          go_ret
          exact ⟨by rw [HF'.out]; rfl, HD.out⟩
        · have HF' : Hid (fitsGB (q : Int) (p : Int) n = false) := by unfold Hid; rw [HF.out]; simp [he]
          have hei : ((n : Int) == (s : Int) + (z : Int)) = false := by rw [beq_eq_false_iff_ne]; omega
          clear HF HT HZ
          go_wp2_with fail
          go_ret
          exact ⟨by rw [HF'.out]; rfl, HD.out⟩
end Go.Proofs.YtinpiodfpnbllaaGreatDoor

/- Texts: the program's; texts that were returned. -/
namespace Go.Proofs.YtinpiodfpnbllaaGreatDoor
open Go.RowKit
set_option linter.unusedVariables false
set_option linter.unusedSimpArgs false

/-- Texts that are returned, with an error. -/
def TxEnd (ts : List (List UInt8)) (e0 : Int) (e : Ending) (w' : World) : Prop := ∃ A c rs, e = .returned (.tuple #[.slice A rs.length c, .int .i64 e0]) ∧ rs.map BRow.l = ts ∧ RR w' A c rs
def textsR (ks : List (List UInt8)) : List (List UInt8) × Int := if 128 < ks.length then ([], 4) else (textsS ks, 0)
theorem RR.nil (w : World) : RR w none 0 [] := ⟨Rd.nil w 1, by simp⟩
theorem TX.rr {B : Nat} {w : World} {g : Nat} {ts : List (List UInt8)} (h : TX B w g ts) (hl : ts.length ≤ 100000) : ∃ A c rs, w.cell? ⟨g, 0, none⟩ = some (.slice A rs.length c) ∧ rs.map BRow.l = ts ∧ RR w A c rs := by
  obtain ⟨A, c, rs, h1, h2, h3, h4, h5, h6⟩ := h
  have hrl : rs.length ≤ 100000 := by rw [← List.length_map (f := BRow.l), h1]; exact hl
  refine ⟨A, c, rs, h3.cell 0, h1, h4.rr (by omega) fun r hr => (h5 r hr).br ?_⟩
  have := h6 r.l (by rw [← h1]; exact List.mem_map.2 ⟨r, hr, rfl⟩)
  omega
theorem TX.new (w : World) : TX w.heap.size (w.alloc (.cells #[.slice none 0 0] 150)) w.heap.size [] :=
  ⟨none, 0, [], rfl, Nat.le_refl _, Blk.new w _ _, RO.nil _ _, by simp, by simp⟩

set_option maxHeartbeats 1000000 in
set_option maxRecDepth 100000 in
theorem Texts_any (ks : List (List UInt8)) (A : Option Addr) (c : Nat) (w : World) {n : Nat} (hn : ks.length = n) (h : KR w A c ks) :
    Calls Tryz.prog 40 #[.slice A n c] w fun e w' => TxEnd (textsR ks).1 (textsR ks).2 e w' ∧ Below w.heap.size w w' := by
  have hnl : (n : Int) ≤ 140737488351232 := by have := h.len; omega
  rcases (by omega : 128 < n ∨ n = 0 ∨ (1 ≤ n ∧ n ≤ 128)) with hw | rfl | ⟨h1, hw⟩
  · have HS : Hid (textsR ks = ([], 4)) := by unfold Hid textsR; rw [if_pos (by omega)]
    have hbi : (128 : Int) < n := by omega
    clear hn h hw
    go_enter Tryz.func40, Tryz.ntmps40
    go_wp2
    go_ret2
    rw [HS.out]
    exact ⟨⟨none, 0, [], rfl, rfl, RR.nil _⟩, Below.refl _ _⟩
  · have HS : Hid (textsR ks = ([[]], 0)) := by unfold Hid textsR; rw [if_neg (by omega), List.eq_nil_of_length_eq_zero hn, textsS_nil]
    clear hn h hnl
    go_enter Tryz.func40, Tryz.ntmps40
    go_wp2
    go_ret2
    rw [HS.out]
    refine ⟨⟨some ⟨w.heap.size, 0, none⟩, 1, [⟨none, 0, []⟩], rfl, rfl, ⟨⟨⟨rfl, Nat.le_refl _, by omega, by simp⟩, fun _ => ⟨w.heap.size, 0, rfl, by simp, fun j v hv => ?_⟩⟩, fun r hr => by rw [List.mem_singleton.1 hr]; exact BR.nil _⟩⟩, alloc_bel _ _⟩
    rw [Nat.zero_add, (Blk.new w _ _).cell j]
    simpa [BRow.v] using hv
  · have HS : Hid (textsR ks = (textsS ks, 0)) := by unfold Hid textsR; rw [if_neg (by omega)]
    have hwi : (n : Int) ≤ 128 := by omega
    have h1i : (1 : Int) ≤ n := by omega
    have hne : ¬ (n : Int) = 0 := by omega
    have hlt : ¬ (128 : Int) < n := by omega
    have hle := textsS_le n ks hn h1
    have b0 := alloc_bel w (.cells #[.slice none 0 0] 150)
    have HF := Lib.hid (textFold_any w w.heap.size n ks A c [] (w.alloc (.cells #[.slice none 0 0] 150)) hn h1 (by omega) h b0 (TX.new w) (by simp; omega))
    generalize textsS ks = ts at HS HF hle
    generalize rootS ks = rt at HF
    rw [List.nil_append] at HF
    have HLE : Hid (ts.length ≤ 100000) := by unfold Hid; omega
    clear hn h hw hle
    go_enter Tryz.func40, Tryz.ntmps40
    go_wp2_with (go_at_call 93; refine (HF.out).mono ?_; rintro e w1 ⟨rfl, ht1, hk1, hb1⟩; obtain ⟨A1, c1, rs, hc1, hrs, hrr⟩ := ht1.rr HLE.out; have HRS := Lib.hid hrs; have HRR := Lib.hid hrr; have B1 := Lib.hid (b0.trans hb1); generalize hq : rs.length = q at hc1; have HQ := Lib.hid hq; clear hrs hrr ht1 hk1 hb1 hq)
    go_ret2
    rw [HS.out]
    exact ⟨⟨A1, c1, rs, by rw [HQ.out]; rfl, HRS.out, HRR.out⟩, B1.out⟩
end Go.Proofs.YtinpiodfpnbllaaGreatDoor

/- What a proof gives: the program's Verify and PathTexts. -/
namespace Go.Proofs.YtinpiodfpnbllaaGreatDoor
open Go.RowKit
set_option linter.unusedVariables false
set_option linter.unusedSimpArgs false
attribute [local go_sem] run_storeCells_key run_storeCells_new equalIn_keys

/-- A key and texts that are returned. -/
def GvEnd (r : List UInt8) (ts : List (List UInt8)) (e : Ending) (w' : World) : Prop := ∃ A c rs, e = .returned (.tuple #[.agg (cellsB r).toArray, .slice A rs.length c]) ∧ rs.map BRow.l = ts ∧ RR w' A c rs
def verS (root leaf : List UInt8) (a b : Int) (P : List (List UInt8)) : Bool × Int := if fitsB a b P.length = true then ((climbS leaf a.toNat b.toNat P).1 == root, 0) else (false, 8)
def ptS (leaf : List UInt8) (a b : Int) (P : List (List UInt8)) : List (List UInt8) × Int := if fitsB a b P.length = true then ((climbS leaf a.toNat b.toNat P).2, 0) else ([], 8)

set_option maxHeartbeats 2000000 in
set_option maxRecDepth 100000 in
theorem given_any (leaf : List UInt8) (n i : Nat) (P : List (List UInt8)) (A : Option Addr) (c : Nat) (w : World) {m : Nat} (hm : P.length = m) (hl : leaf.length = 16) (h1 : 1 ≤ n) (h2 : n ≤ 128) (hi : i < n) (hp : P.length = stepsS n i) (h : KR w A c P) :
    Calls Tryz.prog 99 #[.agg (cellsB leaf).toArray, .agg #[.int .i64 (n : Int), .int .i64 (i : Int), .slice A m c]] w fun e w' => GvEnd (climbS leaf n i P).1 (climbS leaf n i P).2 e w' ∧ Below w.heap.size w w' := by
  have HZ := Lib.hid zero16
  have HK := Lib.hid hl
  have b0 := alloc3_bel w (.cells (cellsB leaf).toArray 24) (.cells #[.int .i64 (n : Int), .int .i64 (i : Int), .slice A m c] 27) (.cells (cellsB zeroK).toArray 24)
  have L0 := Lib.hid (blk_a0 w (cellsB leaf).toArray 24 (.cells #[.int .i64 (n : Int), .int .i64 (i : Int), .slice A m c] 27) (.cells (cellsB zeroK).toArray 24))
  have R0 := Lib.hid (blk_a2 w (.cells (cellsB leaf).toArray 24) (.cells #[.int .i64 (n : Int), .int .i64 (i : Int), .slice A m c] 27) (cellsB zeroK).toArray 24)
  obtain ⟨W3, hW3⟩ : ∃ W, W = ((w.alloc (.cells (cellsB leaf).toArray 24)).alloc (.cells #[.int .i64 (n : Int), .int .i64 (i : Int), .slice A m c] 27)).alloc (.cells (cellsB zeroK).toArray 24) := ⟨_, rfl⟩
  have hsz : W3.heap.size = w.heap.size + 1 + 1 + 1 := by rw [hW3]; simp
  have ht0 := TX.new W3
  have b3 := alloc_bel W3 (.cells #[.slice none 0 0] 150)
  have hle := climbS_le leaf n i P h1
  have hrl := climbS_length leaf n i P
  have HC := climb_any W3 W3.heap.size leaf hl n i P A c [] (W3.alloc (.cells #[.slice none 0 0] 150)) h1 (by omega) hi hp (by rw [hW3]; exact h.below b0) b3 ht0 (by simp; omega)
  rw [hm, List.nil_append] at HC
  have HSZ := Lib.hid hsz
  have HC' := Lib.hid HC
  have HW3 := Lib.hid hW3
  rw [← hW3] at b0 L0 R0
  generalize climbS leaf n i P = r at HC' hle hrl HC ⊢
  obtain ⟨q, x⟩ := r
  dsimp only at HC' hle hrl HC ⊢
  have HRL := Lib.hid hrl
  have hdc : (cellsB q).length = 16 := by rw [cellsB_length, hrl]
  have hall := all16 q
  have HLE : Hid (x.length ≤ 100000) := by unfold Hid; omega
  clear hm hl h1 h2 hi hp h hsz HC ht0 hW3 hle hrl
  go_enter Tryz.func99, Tryz.ntmps99
  go_wp2_with (first
    | (refine wpList_load_row rfl 24 (.tmp 2) rfl w.heap.size rfl 24 (cellsB leaf).toArray (0, 0) _ (by rw [HZ.out, ← HW3.out]; exact (L0.out.alloc _)) under_key rfl (cellsB_size _ HK.out) ?_)
    | (go_at_call 152; rw [HZ.out, ← HW3.out, ← HSZ.out]; refine HC'.out.mono ?_; rintro e w1 ⟨rfl, ht1, hk1, hb1⟩; obtain ⟨A1, c1, rs, hc1, hrs, hrr⟩ := ht1.rr HLE.out; have tlt := ht1.lt; have B1 := Lib.hid (b3.trans hb1); have HTX := Lib.hid ht1; generalize hq : rs.length = k1 at hc1; have HQ := Lib.hid hq; have HC1 := Lib.hid hc1; clear hc1 hq hrs hrr ht1 hk1 hb1))
  have BA := alloc_bel w1 (.cells (cellsB q).toArray 24)
  have Q0 := Blk.new w1 24 (cellsB q).toArray
  have R1 : Blk (w1.alloc (.cells (cellsB q).toArray 24)) (w.heap.size + 1 + 1) 24 (cellsB zeroK).toArray := (R0.out.below' B1.out).alloc _
  have C1 : (w1.alloc (.cells (cellsB q).toArray 24)).cell? ⟨W3.heap.size, 0, none⟩ = some (.slice A1 k1 c1) := (BA.cell (p := ⟨W3.heap.size, 0, none⟩) tlt).trans HC1.out
  have RA := HTX.out.below BA
  have hne : w1.heap.size ≠ w.heap.size + 1 + 1 := by have := HSZ.out; omega
  have hne2 : W3.heap.size ≠ w.heap.size + 1 + 1 := by have := HSZ.out; omega
  rw [HSZ.out] at C1 hne2
  have BW : Below w.heap.size w (w1.alloc (.cells (cellsB q).toArray 24)) := bel_on (bel_on b0 B1.out) BA
  obtain ⟨W4, hW4⟩ : ∃ W, W = w1.alloc (.cells (cellsB q).toArray 24) := ⟨_, rfl⟩
  rw [← hW4] at Q0 R1 C1 RA BW ⊢
  clear hW4 BA HC1
  refine wp_region_noPanic ?_
  refine wp_region_held_drew (S := fun w' => w'.rangeAt w1.heap.size 0 (cellsB q) ∧ w'.cell? ⟨w.heap.size + 1 + 1 + 1, 0, none⟩ = some (.slice A1 k1 c1)) (by kernel_rfl) ⟨Q0.drew.range, C1⟩ (fun hS => ?_)
  refine hd_load 0 w1.heap.size 0 (cellsB q) _ _ rfl rfl rfl (by kernel_rfl) (by kernel_rfl) (by kernel_rfl) (fun _ _ _ h => h) rfl (fun w hw => hw.1) under_key rfl (key_info HRL.out) hS ?_
  refine hd_take 1 (.slice A1 k1 c1) rfl rfl (by kernel_rfl) (by kernel_rfl) (by kernel_rfl) (fun _ _ _ h => h) (fun w hw => by have hx := hw.2; simp [go_sem, HSZ.out, hx]) hS ?_
  simp only [List.getElem_toArray, List.getElem_cons_succ, List.getElem_cons_zero, Act.put, List.setIfInBounds_toArray, List.set_cons_zero, List.set_cons_succ]
  have hS7 := And.intro (range_setRow hS.1 (g' := w.heap.size + 1 + 1) hne (cellsB q).toArray) ((World.cell?_of_block (a := ⟨w.heap.size + 1 + 1 + 1, 0, none⟩) (setRow_other W4.drew (w.heap.size + 1 + 1) (w.heap.size + 1 + 1 + 1) (cellsB q).toArray (by omega))).trans hS.2)
  refine hd_store 2 (w.heap.size + 1 + 1) (cellsB q).toArray _ _ _ rfl rfl rfl (by kernel_rfl) rfl rfl R1.drew (cellsB_size _ HRL.out) (by rw [List.size_toArray, List.size_toArray, cellsB_length, cellsB_length, HRL.out]; rfl) (all_oneCell_toArray (cells_one q)) hS7 ?_
  refine hd_take 3 (_) rfl rfl (by kernel_rfl) (by kernel_rfl) (by kernel_rfl) (fun _ _ _ h => h) (fun w _ => by go_simp <;> rfl) hS7 ?_
  simp only [List.getElem_toArray, List.getElem_cons_succ, List.getElem_cons_zero, Act.put, List.setIfInBounds_toArray, List.set_cons_zero, List.set_cons_succ]
  refine wpAnyH_done (by kernel_rfl) (NoPanic.normal ?_) _
  have HRF := Lib.hid (R1.drew.setRow (cellsB q).toArray)
  have HBF := Lib.hid (below_setRow BW.drew (g := w.heap.size + 1 + 1) (by omega) (cellsB q).toArray)
  obtain ⟨A5, c5, rs5, hc5, hrs5, hrr5⟩ := ((RA.below (Below.refl _ _).drew).row R1.drew (cellsB q).toArray).rr HLE.out
  rw [HSZ.out, hS7.2] at hc5
  injection hc5 with hc5
  injection hc5 with e1 e2 e3
  subst e1 e3
  have HQ5 := Lib.hid e2
  have HRS5 := Lib.hid hrs5
  have HRR5 := Lib.hid hrr5
  clear hS hS7 Q0 R1 C1 RA BW e2 hrs5 hrr5
  go_wp2_with fail
  refine bodyPost_ret (v := .tuple #[.agg (cellsB q).toArray, .slice A1 k1 c1]) ?_ rfl ⟨⟨A1, c1, rs5, by rw [HQ5.out], HRS5.out, HRR5.out⟩, HBF.out⟩
  rw [results_cell_tmp Tryz.results99]
  simp [asAddr, Result.andThen, run_loadVar_row _ (w.heap.size + 1 + 1) _ _ _ (0, 0) _ HRF.out under_key rfl (cellsB_size _ HRL.out)]

set_option maxHeartbeats 2000000 in
set_option maxRecDepth 100000 in
theorem gives_any (root leaf : List UInt8) (n i : Nat) (P : List (List UInt8)) (A : Option Addr) (c : Nat) (w : World) {m : Nat} (hm : P.length = m) (hr : root.length = 16) (hl : leaf.length = 16) (h1 : 1 ≤ n) (h2 : n ≤ 128) (hi : i < n) (hp : P.length = stepsS n i) (h : KR w A c P) :
    Calls Tryz.prog 80 #[.agg (cellsB root).toArray, .agg (cellsB leaf).toArray, .agg #[.int .i64 (n : Int), .int .i64 (i : Int), .slice A m c]] w fun e w' => e = .returned (.bool ((climbS leaf n i P).1 == root)) ∧ Below w.heap.size w w' := by
  have HZ := Lib.hid zero16
  have HK := Lib.hid hl
  have HR := Lib.hid hr
  have b0 := alloc3_bel w (.cells (cellsB root).toArray 24) (.cells (cellsB leaf).toArray 24) (.cells #[.int .i64 (n : Int), .int .i64 (i : Int), .slice A m c] 27)
  have R0 := Lib.hid (blk_a0 w (cellsB root).toArray 24 (.cells (cellsB leaf).toArray 24) (.cells #[.int .i64 (n : Int), .int .i64 (i : Int), .slice A m c] 27))
  have L0 := Lib.hid (blk_a1 w (.cells (cellsB root).toArray 24) (cellsB leaf).toArray 24 (.cells #[.int .i64 (n : Int), .int .i64 (i : Int), .slice A m c] 27))
  have HG : Hid (∀ W, Below w.heap.size w W → Calls Tryz.prog 99 #[.agg (cellsB leaf).toArray, .agg #[.int .i64 (n : Int), .int .i64 (i : Int), .slice A m c]] W fun e w' => GvEnd (climbS leaf n i P).1 (climbS leaf n i P).2 e w' ∧ Below W.heap.size W w') := fun W hW => given_any leaf n i P A c W hm hl h1 h2 hi hp (h.below hW)
  have hrl := climbS_length leaf n i P
  generalize climbS leaf n i P = r at HG hrl ⊢
  obtain ⟨q, x⟩ := r
  unfold GvEnd at HG
  dsimp only at HG hrl ⊢
  have HRL := Lib.hid hrl
  have hdc : (cellsB q).length = 16 := by rw [cellsB_length, hrl]
  have hall := all16 q
  clear hm hr hl h1 h2 hi hp h hrl
  go_enter Tryz.func80, Tryz.ntmps80
  go_wp2_with (first
    | (refine wpList_load_row rfl 24 (.tmp 4) rfl (w.heap.size + 1) rfl 24 (cellsB leaf).toArray (0, 0) _ L0.out under_key rfl (cellsB_size _ HK.out) ?_)
    | (go_at_call 99; refine (HG.out _ b0).mono ?_; rintro e w1 ⟨⟨A1, c1, rs, rfl, _, _⟩, hb1⟩; have B1 := Lib.hid (bel_on b0 hb1); have R1 := Lib.hid ((R0.out.below' hb1).alloc (.cells (cellsB q).toArray 24)); have Q1 := Lib.hid (Blk.new w1 24 (cellsB q).toArray); clear hb1)
    | (refine wpList_load_row rfl 24 (.tmp 7) rfl w1.heap.size rfl 24 (cellsB q).toArray (0, 0) _ Q1.out under_key rfl (cellsB_size _ HRL.out) ?_)
    | (refine wpList_load_row rfl 24 (.tmp 3) rfl w.heap.size rfl 24 (cellsB root).toArray (0, 0) _ R1.out under_key rfl (cellsB_size _ HR.out) ?_))
  go_ret
  exact ⟨rfl, bel_on B1.out (alloc_bel w1 _)⟩

set_option maxHeartbeats 2000000 in
set_option maxRecDepth 100000 in
theorem Verify_any (root leaf : List UInt8) (a b : Int) (P : List (List UInt8)) (A : Option Addr) (c : Nat) (w : World) {m : Nat} (hm : P.length = m) (hr : root.length = 16) (hl : leaf.length = 16) (h : KR w A c P) :
    Calls Tryz.prog 28 #[.agg (cellsB root).toArray, .agg (cellsB leaf).toArray, .agg #[.int .i64 a, .int .i64 b, .slice A m c]] w fun e w' => e = .returned (.tuple #[.bool (verS root leaf a b P).1, .int .i64 (verS root leaf a b P).2]) ∧ Below w.heap.size w w' := by
  have HK := Lib.hid hl
  have HR := Lib.hid hr
  have b0 := alloc3_bel w (.cells (cellsB root).toArray 24) (.cells (cellsB leaf).toArray 24) (.cells #[.int .i64 a, .int .i64 b, .slice A m c] 27)
  have R0 := Lib.hid (blk_a0 w (cellsB root).toArray 24 (.cells (cellsB leaf).toArray 24) (.cells #[.int .i64 a, .int .i64 b, .slice A m c] 27))
  have L0 := Lib.hid (blk_a1 w (.cells (cellsB root).toArray 24) (cellsB leaf).toArray 24 (.cells #[.int .i64 a, .int .i64 b, .slice A m c] 27))
  have P0 := Lib.hid (blk_a2 w (.cells (cellsB root).toArray 24) (.cells (cellsB leaf).toArray 24) #[.int .i64 a, .int .i64 b, .slice A m c] 27)
  have hml := h.len
  have HF : Hid (∀ W, Calls Tryz.prog 73 #[.agg #[.int .i64 a, .int .i64 b, .slice A m c]] W fun e w' => e = .returned (.bool (fitsB a b m)) ∧ Below W.heap.size W w') := fun W => fits_any a b A m c W (by omega)
  cases hf : fitsB a b m with
  | false =>
    have HS : Hid (verS root leaf a b P = (false, 8)) := by unfold Hid verS; rw [hm, hf]; rfl
    rw [hf] at HF
    clear hf hm hr hl h hml
    go_enter Tryz.func28, Tryz.ntmps28
    go_wp2_with (go_at_call 73; refine (HF.out _).mono ?_; rintro e w1 ⟨rfl, hb1⟩; have B1 := Lib.hid (bel_on b0 hb1); clear hb1)
    go_ret2
    rw [HS.out]
    exact ⟨rfl, B1.out⟩
  | true =>
    have HS : Hid (verS root leaf a b P = ((climbS leaf a.toNat b.toNat P).1 == root, 0)) := by unfold Hid verS; rw [hm, hf]; rfl
    rw [hf] at HF
    obtain ⟨⟨g1, g2, g3, g4⟩, g5⟩ := fitsB_iff.1 hf
    have HG : Hid (∀ W, Below w.heap.size w W → Calls Tryz.prog 80 #[.agg (cellsB root).toArray, .agg (cellsB leaf).toArray, .agg #[.int .i64 a, .int .i64 b, .slice A m c]] W fun e w' => e = .returned (.bool ((climbS leaf a.toNat b.toNat P).1 == root)) ∧ Below W.heap.size W w') := fun W hW => by
      have := gives_any root leaf a.toNat b.toNat P A c W hm hr hl (by omega) (by omega) (by omega) (by rw [hm]; exact g5) (h.below hW)
      rwa [Int.toNat_of_nonneg (by omega), Int.toNat_of_nonneg (by omega)] at this
    generalize ((climbS leaf a.toNat b.toNat P).1 == root) = v at HS HG
    clear hf hm hr hl h hml g1 g2 g3 g4 g5
    go_enter Tryz.func28, Tryz.ntmps28
    go_wp2_with (first
      | (go_at_call 73; refine (HF.out _).mono ?_; rintro e w1 ⟨rfl, hb1⟩; have B1 := bel_on b0 hb1; have R1 := Lib.hid (R0.out.below' hb1); have L1 := Lib.hid (L0.out.below' hb1); have P1 := P0.out.below' hb1; have p0 : w1.cell? ⟨w.heap.size + 1 + 1, 0, none⟩ = some (.int .i64 a) := P1.cell 0; have p1 : w1.cell? ⟨w.heap.size + 1 + 1, 1, none⟩ = some (.int .i64 b) := P1.cell 1; have p2 : w1.cell? ⟨w.heap.size + 1 + 1, 2, none⟩ = some (.slice A m c) := P1.cell 2; clear P1 hb1)
      | (refine wpList_load_row rfl 24 (.tmp 3) rfl w.heap.size rfl 24 (cellsB root).toArray (0, 0) _ R1.out under_key rfl (cellsB_size _ HR.out) ?_)
      | (refine wpList_load_row rfl 24 (.tmp 4) rfl (w.heap.size + 1) rfl 24 (cellsB leaf).toArray (0, 0) _ L1.out under_key rfl (cellsB_size _ HK.out) ?_)
      | (go_at_call 80; refine (HG.out _ B1).mono ?_; rintro e w2 ⟨rfl, hb2⟩; have B2 := Lib.hid (bel_on B1 hb2); clear hb2))
    go_ret2
    rw [HS.out]
    exact ⟨rfl, B2.out⟩

set_option maxHeartbeats 2000000 in
set_option maxRecDepth 100000 in
theorem PathTexts_any (leaf : List UInt8) (a b : Int) (P : List (List UInt8)) (A : Option Addr) (c : Nat) (w : World) {m : Nat} (hm : P.length = m) (hl : leaf.length = 16) (h : KR w A c P) :
    Calls Tryz.prog 41 #[.agg (cellsB leaf).toArray, .agg #[.int .i64 a, .int .i64 b, .slice A m c]] w fun e w' => TxEnd (ptS leaf a b P).1 (ptS leaf a b P).2 e w' ∧ Below w.heap.size w w' := by
  have HK := Lib.hid hl
  have b0 := alloc2_bel w (.cells (cellsB leaf).toArray 24) (.cells #[.int .i64 a, .int .i64 b, .slice A m c] 27)
  have L0 := Lib.hid (blk_b0 w (cellsB leaf).toArray 24 (.cells #[.int .i64 a, .int .i64 b, .slice A m c] 27))
  have P0 := Lib.hid (blk_b1 w (.cells (cellsB leaf).toArray 24) #[.int .i64 a, .int .i64 b, .slice A m c] 27)
  have hml := h.len
  have HF : Hid (∀ W, Calls Tryz.prog 73 #[.agg #[.int .i64 a, .int .i64 b, .slice A m c]] W fun e w' => e = .returned (.bool (fitsB a b m)) ∧ Below W.heap.size W w') := fun W => fits_any a b A m c W (by omega)
  cases hf : fitsB a b m with
  | false =>
    have HS : Hid (ptS leaf a b P = ([], 8)) := by unfold Hid ptS; rw [hm, hf]; rfl
    rw [hf] at HF
    clear hf hm hl h hml
    go_enter Tryz.func41, Tryz.ntmps41
    go_wp2_with (go_at_call 73; refine (HF.out _).mono ?_; rintro e w1 ⟨rfl, hb1⟩; have B1 := Lib.hid (bel_on b0 hb1); clear hb1)
    go_ret2
    rw [HS.out]
    exact ⟨⟨none, 0, [], rfl, rfl, RR.nil _⟩, B1.out⟩
  | true =>
    have HS : Hid (ptS leaf a b P = ((climbS leaf a.toNat b.toNat P).2, 0)) := by unfold Hid ptS; rw [hm, hf]; rfl
    rw [hf] at HF
    obtain ⟨⟨g1, g2, g3, g4⟩, g5⟩ := fitsB_iff.1 hf
    have HG : Hid (∀ W, Below w.heap.size w W → Calls Tryz.prog 99 #[.agg (cellsB leaf).toArray, .agg #[.int .i64 a, .int .i64 b, .slice A m c]] W fun e w' => GvEnd (climbS leaf a.toNat b.toNat P).1 (climbS leaf a.toNat b.toNat P).2 e w' ∧ Below W.heap.size W w') := fun W hW => by
      have := given_any leaf a.toNat b.toNat P A c W hm hl (by omega) (by omega) (by omega) (by rw [hm]; exact g5) (h.below hW)
      rwa [Int.toNat_of_nonneg (by omega), Int.toNat_of_nonneg (by omega)] at this
    have hrl := climbS_length leaf a.toNat b.toNat P
    generalize climbS leaf a.toNat b.toNat P = r at HS HG hrl
    obtain ⟨q, x⟩ := r
    unfold GvEnd at HG
    dsimp only at HS HG hrl
    have hdc : (cellsB q).length = 16 := by rw [cellsB_length, hrl]
    have hall := all16 q
    clear hf hm hl h hml g1 g2 g3 g4 g5 hrl
    go_enter Tryz.func41, Tryz.ntmps41
    go_wp2_with (first
      | (go_at_call 73; refine (HF.out _).mono ?_; rintro e w1 ⟨rfl, hb1⟩; have B1 := bel_on b0 hb1; have L1 := Lib.hid (L0.out.below' hb1); have P1 := P0.out.below' hb1; have p0 : w1.cell? ⟨w.heap.size + 1, 0, none⟩ = some (.int .i64 a) := P1.cell 0; have p1 : w1.cell? ⟨w.heap.size + 1, 1, none⟩ = some (.int .i64 b) := P1.cell 1; have p2 : w1.cell? ⟨w.heap.size + 1, 2, none⟩ = some (.slice A m c) := P1.cell 2; clear P1 hb1)
      | (refine wpList_load_row rfl 24 (.tmp 2) rfl w.heap.size rfl 24 (cellsB leaf).toArray (0, 0) _ L1.out under_key rfl (cellsB_size _ HK.out) ?_)
      | (go_at_call 99; refine (HG.out _ B1).mono ?_; rintro e w2 ⟨⟨A2, c2, rs, rfl, hrs, hrr⟩, hb2⟩; have B2 := Lib.hid (bel_on B1 hb2); have HRS := Lib.hid hrs; have HRR := Lib.hid hrr; generalize hq : rs.length = k; have HQ := Lib.hid hq; clear hb2 hrs hrr hq))
    go_ret2
    rw [HS.out]
    exact ⟨⟨A2, c2, rs, by rw [HQ.out]; rfl, HRS.out, HRR.out.on (alloc_bel _ _)⟩, bel_on B2.out (alloc_bel _ _)⟩
end Go.Proofs.YtinpiodfpnbllaaGreatDoor

/- When a proof of absence is accepted, in plain words. -/
namespace Go.Proofs.YtinpiodfpnbllaaGreatDoor
set_option linter.unusedVariables false

def nearB (lo hi : Ent) (u a b a2 b2 : Int) : Bool := decide (lo.1 < u) && (decide (u < hi.1) && (decide (a = a2) && decide (b + 1 = b2)))
def okV (lo hi : Ent) (a b : Int) (n : Nat) (a2 b2 : Int) (n2 : Nat) : Bool := isE lo && (isE hi && (fitsB a b n && fitsB a2 b2 n2))
/-- Whether a proof of absence is accepted, or the error. -/
def voS (root : List UInt8) (u : Int) (lo hi : Ent) (a b : Int) (P : List (List UInt8)) (a2 b2 : Int) (R : List (List UInt8)) : Bool × Int :=
  if u < 0 ∨ 64 ≤ u then (false, 2) else if okV lo hi a b P.length a2 b2 R.length = false then (false, 8) else (nearB lo hi u a b a2 b2 && (((climbS (leafE lo) a.toNat b.toNat P).1 == root) && ((climbS (leafE hi) a2.toNat b2.toNat R).1 == root)), 0)
theorem okV_iff {lo hi : Ent} {a b : Int} {n : Nat} {a2 b2 : Int} {n2 : Nat} : okV lo hi a b n a2 b2 n2 = true ↔ isE lo = true ∧ isE hi = true ∧ fitsB a b n = true ∧ fitsB a2 b2 n2 = true := by simp [okV]
theorem okV_b {lo hi : Ent} {a b : Int} {n : Nat} {a2 b2 : Int} {n2 : Nat} (h : okV lo hi a b n a2 b2 n2 = true) : 0 ≤ b ∧ b < 128 ∧ b2 < 128 := by
  obtain ⟨_, _, x2, x3⟩ := okV_iff.1 h
  obtain ⟨⟨p1, p2, p3, p4⟩, _⟩ := fitsB_iff.1 x2
  obtain ⟨⟨p6, p7, p8, p9⟩, _⟩ := fitsB_iff.1 x3
  exact ⟨by omega, by omega, by omega⟩
theorem nearB_iff {lo hi : Ent} {u a b a2 b2 : Int} : nearB lo hi u a b a2 b2 = true ↔ lo.1 < u ∧ u < hi.1 ∧ a = a2 ∧ b + 1 = b2 := by simp [nearB]
theorem nearB_iff_not {r0 q0 r1 q1 u a b a2 b2 : Int} : (¬ (r0 < u ∧ u < r1 ∧ a = a2 ∧ b + 1 = b2)) ↔ nearB (r0, q0) (r1, q1) u a b a2 b2 = false := by
  rw [← Bool.not_eq_true, nearB_iff]
theorem nearB_yes {r0 q0 r1 q1 u a b a2 b2 : Int} (n0 : r0 < u) (n1 : u < r1) (n2 : a = a2) (n3 : b + 1 = b2) : nearB (r0, q0) (r1, q1) u a b a2 b2 = true := nearB_iff.2 ⟨n0, n1, n2, n3⟩
theorem rangeOf {w : World} {g : Nat} {t : TypeId} {cs : Array Value} (h : Blk w g t cs) (o : Nat) (xs : List Value) (hx : (cs.toList.drop o).take xs.length = xs) : w.rangeAt g o xs := fun j v hv => by
  rw [h.cell, ← Array.getElem?_toList]
  have hj : j < xs.length := by
    rcases Nat.lt_or_ge j xs.length with h' | h'
    · exact h'
    · rw [List.getElem?_eq_none h'] at hv; cases hv
  rw [← hv, ← hx, List.getElem?_take, if_pos hj, List.getElem?_drop]
end Go.Proofs.YtinpiodfpnbllaaGreatDoor
