/-
  Lemmas and contracts, joined.
-/
import Derived.Test.YtchnaimpmegbkaaGreatDoorShelf
import Derived.Lib.ItoaNum
import Derived.Laws.Tables
import Derived.Laws.ResultCell
import Derived.Lib.AppendZeros
import Derived.Great.BuildSlice
import Derived.Shelf.RegionOpenPlain
import Derived.Shelf.GgSortFunc.RowK
import Derived.Sort.WalkB12
import Derived.Lib.SlicesMore
import Derived.Lib.OwnBridge
import Derived.Deep.LoopGhost
import Derived.Laws.Cells
import Derived.Test.YtchnaimpmegbkaaGreatDoorTfTh1
import Derived.Test.YtchnaimpmegbkaaGreatDoorTfTw1
import Derived.Test.YtchnaimpmegbkaaGreatDoorTfTc1
set_option linter.unusedSimpArgs false
set_option linter.unusedVariables false
set_option linter.unnecessarySimpa false
/- The program's digest of a node; where it parts a list. -/
namespace Go.Proofs.YtchnaimpmegbkaaGreatDoor
open Go.RowKit
set_option linter.unusedVariables false
attribute [local go_sem] run_storeCells_key run_storeCells_new

set_option maxHeartbeats 1000000 in
set_option maxRecDepth 100000 in
theorem nodeHash_any (a b : List UInt8) (w : World) (ha : a.length = 16) (hb : b.length = 16) :
    Calls Tryz.prog 99 #[.agg (cellsB a).toArray, .agg (cellsB b).toArray] w fun e w' => e = .returned (.agg (cellsB (digS (nodeT a b))).toArray) ∧ Below w.heap.size w w' := by
  have HZ := Lib.hid zero16
  have HA := Lib.hid ha
  have HB := Lib.hid hb
  have b0 := alloc3_bel w (.cells (cellsB a).toArray 23) (.cells (cellsB b).toArray 23) (.cells (cellsB zeroK).toArray 23)
  have B2 := Lib.hid (blk_a2 w (.cells (cellsB a).toArray 23) (.cells (cellsB b).toArray 23) (cellsB zeroK).toArray 23)
  have HNT : Hid (∀ W, Calls Tryz.prog 37 #[.agg (cellsB a).toArray, .agg (cellsB b).toArray] W fun e w' => (∃ A c, e = .returned (.slice A 33 c) ∧ OB W.heap.size w' A c (nodeT a b)) ∧ Below W.heap.size W w') := fun W => nodeText_any a b W ha hb
  have HNL : Hid ((nodeT a b).length = 33) := by unfold Hid nodeT; simp [ha, hb]
  have HD : Hid (∀ W A c, BR W A c (nodeT a b) → Calls Tryz.prog 68 #[.slice A 33 c] W fun e w' => e = .returned (.agg (cellsB (digS (nodeT a b))).toArray) ∧ Below W.heap.size W w') := fun W A c h => digest_any (nodeT a b) A c W HNL.out h (by omega)
  have HDL : Hid ((digS (nodeT a b)).length = 16) := digS_length _
  generalize digS (nodeT a b) = d at HD HDL
  generalize nodeT a b = t at HNT HD HNL
  have hdc : (cellsB d).length = 16 := by rw [cellsB_length, HDL.out]
  have hall := all16 d
  clear ha hb
  go_enter Tryz.func99, Tryz.ntmps99
  go_wp2_with (first
    | (rw [HZ.out]; refine wpList_load_row rfl 23 (.tmp 2) rfl w.heap.size rfl 23 (cellsB a).toArray (0, 0) _ (blk_a0 w _ _ _ _) under_key rfl (cellsB_size _ HA.out) ?_)
    | (refine wpList_load_row rfl 23 (.tmp 3) rfl (w.heap.size + 1) rfl 23 (cellsB b).toArray (0, 0) _ (blk_a1 w _ _ _ _) under_key rfl (cellsB_size _ HB.out) ?_)
    | (go_at_call 37; refine (HNT.out _).mono ?_; rintro e w1 ⟨⟨A1, c1, rfl, ho1⟩, hb1⟩; have HO1 := Lib.hid (ho1.br (by rw [HNL.out]; omega)); have b1 := bel_on b0 hb1; clear ho1)
    | (go_at_call 68; refine (HD.out _ _ _ HO1.out).mono ?_; rintro e w2 ⟨rfl, hb2⟩; have b2 := bel_on b1 hb2; have Q2 := (B2.out.below' hb1).below' hb2; have hr2 : (rowAt w2 (w.heap.size + 1 + 1)).size = 16 := (by rw [Q2.row]; rfl); have hf2 := Q2.free; have HQ2 := Lib.hid Q2; clear Q2))
  exact bodyPost_ret (results_cell_row rfl _ _ (w.heap.size + 1 + 1) _ _ (0, 0) _ rfl (HQ2.out.setRow (cellsB d).toArray) under_key rfl (cellsB_size _ HDL.out)) rfl ⟨rfl, below_setRow b2 (by omega) _⟩

theorem bitLen_split {n : Nat} (h2 : 2 ≤ n) (hn : n ≤ 1000) : ∃ e, Lib.bitLen (n - 1) = e + 1 ∧ splitS n = 2 ^ e ∧ e ≤ 9 := by
  obtain ⟨h1, h3, h4⟩ := Lib.bitLenAux_bounds 64 (n - 1) (by omega) (by omega)
  have hb : Lib.bitLen (n - 1) = Lib.bitLenAux 64 (n - 1) := rfl
  rw [hb]
  generalize Lib.bitLenAux 64 (n - 1) = L at h1 h3 h4 ⊢
  obtain ⟨e, rfl⟩ : ∃ e, L = e + 1 := ⟨L - 1, by omega⟩
  rw [Nat.add_sub_cancel] at h3
  rw [Nat.pow_succ] at h4
  refine ⟨e, rfl, splitS_of (by omega) (by omega), ?_⟩
  rcases Nat.lt_or_ge e 10 with h | h
  · omega
  · have := Nat.pow_le_pow_right (show 1 ≤ 2 by omega) h
    omega
set_option maxHeartbeats 1000000 in
theorem split_any (n : Nat) (w : World) (h2 : 2 ≤ n) (hn : n ≤ 1000) : Calls Tryz.prog 67 #[.int .i64 (n : Int)] w fun e w' => e = .returned (.int .i64 ((splitS n : Nat) : Int)) ∧ w = w' := by
  obtain ⟨e, he, hs, he9⟩ := bitLen_split h2 hn
  have hni : (n : Int) ≤ 1000 := by omega
  have h2i : (2 : Int) ≤ (n : Int) := by omega
  have HLEN : Hid (∀ W, Calls Tryz.prog 101 #[.int .u64 ((n : Int) - 1)] W fun e' w' => e' = .returned (.int .i64 ((e + 1 : Nat) : Int)) ∧ w' = W) := fun W => by
    have h := Tryz.bits_Len ((n : Int) - 1) W (by omega) (by omega)
    rw [show ((n : Int) - 1).toNat = n - 1 from by omega, he] at h
    exact h
  rw [hs]
  clear hs he
  have hcase : e = 0 ∨ e = 1 ∨ e = 2 ∨ e = 3 ∨ e = 4 ∨ e = 5 ∨ e = 6 ∨ e = 7 ∨ e = 8 ∨ e = 9 := by omega
  clear he9
  rcases hcase with rfl | rfl | rfl | rfl | rfl | rfl | rfl | rfl | rfl | rfl
  all_goals
    go_enter Tryz.func67, Tryz.ntmps67
    go_wp2_with (go_at_call 101; refine (HLEN.out _).mono ?_; rintro e1 w1 ⟨rfl, rfl⟩)
    go_ret
    exact ⟨rfl, rfl⟩
end Go.Proofs.YtchnaimpmegbkaaGreatDoor

/- A region that draws its order, whose operations only read but for one that waits for all the others (a store at the end): one walk of the text's order, then the last one. -/
namespace Go.Proofs.YtchnaimpmegbkaaGreatDoor
open Go.RowKit
set_option linter.unusedVariables false

section
variable {P : Program} {ops : Array Oper} {md : Region.Mode} {C : World → Prop}

/-- Operation m waits for each other one that has not come up yet. -/
def waitsAll (md : Region.Mode) (ops : Array Oper) (m : Nat) (listed : Array Bool) : Prop := ∀ s, ops[m]? = some s → ∀ k, k ≠ m → listed.getD k true = false → ∃ e ∈ s.after, Region.binds md e = true ∧ e.on = k
theorem waitsAll.set {m : Nat} {listed : Array Bool} (h : waitsAll md ops m listed) (j : Nat) : waitsAll md ops m (listed.setIfInBounds j true) := by
  intro s hs k hk hl
  refine h s hs k hk ?_
  by_cases hjk : j = k
  · subst hjk
    rcases Nat.lt_or_ge j listed.size with h' | h'
    · simp [Array.getD, h'] at hl
    · simp [Array.getD, Nat.not_lt.2 h'] at hl
  · rw [getD_set_ne true hjk] at hl; exact hl

theorem wpOp_of_wp {Q : Exit → Act → World → Prop} {m : Nat} {o : Oper} {K : Act → World → Prop} {a : Act} {w : World} (ho : ops[m]? = some o) (hg : o.guard = none) (h : o.wp P a w K Q) : wpOp P ops Q m K a w := by
  unfold wpOp
  have hw : Region.wanted o (yielded ops a.tmps) = true := by simp [Region.wanted, hg]
  simp only [ho, hw, if_true]
  exact .inl h
end
end Go.Proofs.YtchnaimpmegbkaaGreatDoor

/- The reference's Pad. -/
namespace Go.Proofs.YtchnaimpmegbkaaGreatDoor
open Go.RowKit
set_option linter.unusedVariables false

end Go.Proofs.YtchnaimpmegbkaaGreatDoor

/- The reference's Digest. -/
namespace Go.Proofs.YtchnaimpmegbkaaGreatDoor
open Go.RowKit
set_option linter.unusedVariables false
attribute [local go_sem] run_storeCells_key

end Go.Proofs.YtchnaimpmegbkaaGreatDoor

/- The reference's Split. -/
namespace Go.Proofs.YtchnaimpmegbkaaGreatDoor
open Go.RowKit
set_option linter.unusedVariables false

end Go.Proofs.YtchnaimpmegbkaaGreatDoor

/- The reference's root of a list. -/
namespace Go.Proofs.YtchnaimpmegbkaaGreatDoor
open Go.RowKit
set_option linter.unusedVariables false
attribute [local go_sem] run_storeCells_key run_storeCells_new

theorem KR.first {w : World} {A : Option Addr} {c : Nat} {k : List UInt8} (h : KR w A c [k]) : ∃ b off, A = some ⟨b, off, none⟩ ∧ b < w.heap.size ∧ w.rangeAt b off (cellsB k) := by
  obtain ⟨b, off, e, hb, hr⟩ := h.at_ (i := 0) (by simp)
  rw [Nat.zero_mul, Nat.add_zero] at hr
  exact ⟨b, off, e, hb, hr⟩

end Go.Proofs.YtchnaimpmegbkaaGreatDoor

/- The program's root of a list. -/
namespace Go.Proofs.YtchnaimpmegbkaaGreatDoor
open Go.RowKit
set_option linter.unusedVariables false
attribute [local go_sem] run_storeCells_key run_storeCells_new

set_option maxHeartbeats 1000000 in
set_option maxRecDepth 100000 in
theorem rootFold_one (k : List UInt8) (A : Option Addr) (c : Nat) (w : World) (h : KR w A c [k]) : Calls Tryz.prog 32 #[.slice A 1 c, .func (.func 98) #[] #[], .func (.func 99) #[] #[]] w fun e w' => e = .returned (.agg (cellsB (rootS [k])).toArray) ∧ Below w.heap.size w w' := by
  have hk : k.length = 16 := h.2 k (by simp)
  obtain ⟨b, off, rfl, hb, hr⟩ := h.first
  have HK := Lib.hid hk
  have HZ := Lib.hid zero16
  have b0 := alloc_bel w (.cells (cellsB zeroK).toArray 23)
  have B0 := Lib.hid (Blk.new w 23 (cellsB zeroK).toArray)
  have HR := Lib.hid (range_below hr b0)
  have HD : Hid (∀ W, Calls Tryz.prog 98 #[.agg (cellsB k).toArray] W fun e w' => e = .returned (.agg (cellsB (rootS [k])).toArray) ∧ Below W.heap.size W w') := fun W => by rw [rootS_one]; exact leafHash_any k W hk
  have HDL : Hid ((rootS [k]).length = 16) := rootS_length _
  generalize rootS [k] = d at HD HDL
  have hdc : (cellsB d).length = 16 := by rw [cellsB_length, HDL.out]
  have hall := all16 d
  clear hk hr h
  go_enter Tryz.func32, Tryz.ntmps32
  go_wp2_with (first
    | (rw [HZ.out]; refine wpList_load_mid rfl 23 (.tmp 13) rfl b off rfl (cellsB k) _ HR.out under_key rfl (key_info HK.out) ?_)
    | (go_at_call 98; refine (HD.out _).mono ?_; rintro e w2 ⟨rfl, hb2⟩; have b2 := bel_on b0 hb2; have Q2 := B0.out.below' hb2; have hr2 : (rowAt w2 w.heap.size).size = 16 := (by rw [Q2.row]; rfl); have hf2 := Q2.free; have HQ2 := Lib.hid Q2; clear Q2))
  exact bodyPost_ret (results_cell_row rfl _ _ w.heap.size _ _ (0, 0) _ rfl (HQ2.out.setRow (cellsB d).toArray) under_key rfl (cellsB_size _ HDL.out)) rfl ⟨rfl, below_setRow b2 (Nat.le_refl _) _⟩

set_option maxHeartbeats 2000000 in
set_option maxRecDepth 100000 in
theorem rootFold_any (n : Nat) : ∀ (ks : List (List UInt8)) (A : Option Addr) (c : Nat) (w : World), ks.length = n → 1 ≤ n → n ≤ 1000 → KR w A c ks → Calls Tryz.prog 32 #[.slice A n c, .func (.func 98) #[] #[], .func (.func 99) #[] #[]] w fun e w' => e = .returned (.agg (cellsB (rootS ks)).toArray) ∧ Below w.heap.size w w' := by
  induction n using Nat.strongRecOn with
  | _ n ih =>
    intro ks A c w hn h1n hbig h
    rcases Nat.lt_or_ge n 2 with h2 | h2
    · obtain rfl : n = 1 := by omega
      obtain ⟨k, rfl⟩ := List.length_eq_one_iff.1 hn
      exact rootFold_one k A c w h
    have hs1 := splitS_pos n
    have hs2 := splitS_lt h2
    have hcl : n ≤ c := by have := Rd.le h.1; omega
    have hni : (2 : Int) ≤ (n : Int) := by omega
    have hnb : (n : Int) ≤ 1000 := by omega
    have hne0 : ¬ (n : Int) = 0 := by omega
    have hne1 : ¬ (n : Int) = 1 := by omega
    have HSP : Hid (∀ W, Calls Tryz.prog 67 #[.int .i64 (n : Int)] W fun e w' => e = .returned (.int .i64 ((splitS n : Nat) : Int)) ∧ W = w') := fun W => split_any n W h2 hbig
    have HNODE : Hid (rootS ks = digS (nodeT (rootS (ks.take (splitS n))) (rootS (ks.drop (splitS n))))) := by have := rootS_node (l := ks) (by omega); rw [hn] at this; exact this
    have HLO : Hid (∀ W, Below w.heap.size w W → Calls Tryz.prog 32 #[.slice A (splitS n) c, .func (.func 98) #[] #[], .func (.func 99) #[] #[]] W fun e w' => e = .returned (.agg (cellsB (rootS (ks.take (splitS n)))).toArray) ∧ Below W.heap.size W w') := fun W hW => ih (splitS n) hs2 _ A c W (by rw [List.length_take]; omega) (by omega) (by omega) ((h.below hW).take _ (by omega))
    have HHI : Hid (∀ W, Below w.heap.size w W → Calls Tryz.prog 32 #[.slice (dropK A (splitS n) c) (n - splitS n) (c - splitS n), .func (.func 98) #[] #[], .func (.func 99) #[] #[]] W fun e w' => e = .returned (.agg (cellsB (rootS (ks.drop (splitS n)))).toArray) ∧ Below W.heap.size W w') := fun W hW => ih (n - splitS n) (by omega) _ _ _ W (by rw [List.length_drop]; omega) (by omega) (by omega) ((h.below hW).drop _ (by omega))
    have hL1 := rootS_length (ks.take (splitS n))
    have hL2 := rootS_length (ks.drop (splitS n))
    have hsl1 := fun W => slice_keys_to W A n c (splitS n) (by omega)
    have hsl2 := fun W => slice_keys_from W A n c (splitS n) (by omega)
    generalize splitS n = k at HSP HNODE HLO HHI hL1 hL2 hsl1 hsl2 hs1 hs2
    generalize rootS (ks.take k) = r1 at HNODE HLO hL1
    generalize rootS (ks.drop k) = r2 at HNODE HHI hL2
    have HD : Hid (∀ W, Calls Tryz.prog 99 #[.agg (cellsB r1).toArray, .agg (cellsB r2).toArray] W fun e w' => e = .returned (.agg (cellsB (digS (nodeT r1 r2))).toArray) ∧ Below W.heap.size W w') := fun W => nodeHash_any r1 r2 W hL1 hL2
    have HDL : Hid ((digS (nodeT r1 r2)).length = 16) := digS_length _
    generalize digS (nodeT r1 r2) = d at HD HDL HNODE
    have HZ := Lib.hid zero16
    have b0 := alloc_bel w (.cells (cellsB zeroK).toArray 23)
    have B0 := Lib.hid (Blk.new w 23 (cellsB zeroK).toArray)
    clear ih h hn hbig hL1 hL2
    go_enter Tryz.func32, Tryz.ntmps32
    go_wp2_with (go_at_call 67; rw [HZ.out]; refine (HSP.out _).mono ?_; rintro e w1 ⟨rfl, rfl⟩)
    obtain ⟨W0, hW0⟩ : ∃ W : World, W = w.alloc (.cells (cellsB zeroK).toArray 23) := ⟨_, rfl⟩
    rw [← hW0] at b0 B0 ⊢
    clear hW0
    refine wp_region_noPanic ?_
    refine wp_region_held_drew (S := fun _ => True) (by kernel_rfl) trivial (fun hS => ?_)
    refine hd_take 0 (.func (.func 99) #[] #[]) rfl rfl (by kernel_rfl) (by kernel_rfl) (by kernel_rfl) (fun _ _ _ h => h) (fun w _ => by go_simp) hS ?_
    refine hd_take 1 (.slice A n c) rfl rfl (by kernel_rfl) (by kernel_rfl) (by kernel_rfl) (fun _ _ _ h => h) (fun w _ => by go_simp) hS ?_
    refine hd_take 2 (.int .i64 (k : Int)) rfl rfl (by kernel_rfl) (by kernel_rfl) (by kernel_rfl) (fun _ _ _ h => h) (fun w _ => by go_simp) hS ?_
    refine hd_take 4 (.func (.func 98) #[] #[]) rfl rfl (by kernel_rfl) (by kernel_rfl) (by kernel_rfl) (fun _ _ _ h => h) (fun w _ => by go_simp) hS ?_
    refine hd_take 5 (.func (.func 99) #[] #[]) rfl rfl (by kernel_rfl) (by kernel_rfl) (by kernel_rfl) (fun _ _ _ h => h) (fun w _ => by go_simp) hS ?_
    refine hd_take 7 (.slice A n c) rfl rfl (by kernel_rfl) (by kernel_rfl) (by kernel_rfl) (fun _ _ _ h => h) (fun w _ => by go_simp) hS ?_
    refine hd_take 8 (.int .i64 (k : Int)) rfl rfl (by kernel_rfl) (by kernel_rfl) (by kernel_rfl) (fun _ _ _ h => h) (fun w _ => by go_simp) hS ?_
    refine hd_take 10 (.func (.func 98) #[] #[]) rfl rfl (by kernel_rfl) (by kernel_rfl) (by kernel_rfl) (fun _ _ _ h => h) (fun w _ => by go_simp) hS ?_
    refine hd_take 11 (.func (.func 99) #[] #[]) rfl rfl (by kernel_rfl) (by kernel_rfl) (by kernel_rfl) (fun _ _ _ h => h) (fun w _ => by go_simp) hS ?_
    simp only [List.getElem_toArray, List.getElem_cons_succ, List.getElem_cons_zero, Act.put, List.setIfInBounds_toArray, List.set_cons_zero, List.set_cons_succ]
    refine hd_take 3 (.slice A k c) rfl rfl (by kernel_rfl) (by kernel_rfl) (by kernel_rfl) (fun _ _ _ h => h) (fun w _ => by go_simp) hS ?_
    refine hd_take 9 (.slice (dropK A k c) (n - k) (c - k)) rfl rfl (by kernel_rfl) (by kernel_rfl) (by kernel_rfl) (fun _ _ _ h => h) (fun w _ => by go_simp) hS ?_
    simp only [List.getElem_toArray, List.getElem_cons_succ, List.getElem_cons_zero, Act.put, List.setIfInBounds_toArray, List.set_cons_zero, List.set_cons_succ]
    refine hd_calls 6 32 #[.slice A k c, .func (.func 98) #[] #[], .func (.func 99) #[] #[]] rfl rfl (by kernel_rfl) (by go_simp) ((HLO.out _ b0.drew).mono ?_)
    rintro e w3 ⟨rfl, hb3⟩
    have b3 := bel_on b0.drew hb3
    refine ⟨_, rfl, trivial, ?_⟩
    refine hd_calls 12 32 #[.slice (dropK A k c) (n - k) (c - k), .func (.func 98) #[] #[], .func (.func 99) #[] #[]] rfl rfl (by kernel_rfl) (by go_simp) ((HHI.out _ b3).mono ?_)
    rintro e w4 ⟨rfl, hb4⟩
    have b4 := bel_on b3 hb4
    refine ⟨_, rfl, trivial, ?_⟩
    simp only [List.getElem_toArray, List.getElem_cons_succ, List.getElem_cons_zero, Act.put, List.setIfInBounds_toArray, List.set_cons_zero, List.set_cons_succ]
    refine hd_calls 13 99 #[.agg (cellsB r1).toArray, .agg (cellsB r2).toArray] rfl rfl (by kernel_rfl) (by go_simp) ((HD.out _).mono ?_)
    rintro e w6 ⟨rfl, hb6⟩
    have b6 := bel_on b4 hb6
    refine ⟨_, rfl, trivial, ?_⟩
    simp only [List.getElem_toArray, List.getElem_cons_succ, List.getElem_cons_zero, Act.put, List.setIfInBounds_toArray, List.set_cons_zero, List.set_cons_succ]
    have Q6 := ((B0.out.drew.below' hb3).below' hb4).below' hb6
    refine hd_store 14 w.heap.size (cellsB d).toArray _ _ _ rfl rfl rfl (by kernel_rfl) rfl rfl Q6 (cellsB_size _ HDL.out) (by rw [List.size_toArray, List.size_toArray, cellsB_length, cellsB_length, HDL.out]; rfl) (all_oneCell_toArray (cells_one d)) trivial ?_
    refine wpAnyH_done (by kernel_rfl) (NoPanic.normal ?_) _
    simp only [List.getElem_toArray, List.getElem_cons_succ, List.getElem_cons_zero, Act.put, List.setIfInBounds_toArray, List.set_cons_zero, List.set_cons_succ]
    go_wp2_with fail
    exact bodyPost_ret (results_cell_row rfl _ _ w.heap.size _ _ (0, 0) _ rfl (Q6.setRow (cellsB d).toArray) under_key rfl (cellsB_size _ HDL.out)) rfl ⟨by rw [HNODE.out], below_setRow b6 (Nat.le_refl _) _⟩
end Go.Proofs.YtchnaimpmegbkaaGreatDoor

/- Root: the program's and the reference's. -/
namespace Go.Proofs.YtchnaimpmegbkaaGreatDoor
open Go.RowKit
set_option linter.unusedVariables false
attribute [local go_sem] run_storeCells_key run_storeCells_new

/-- A root, or the error. -/
def rtS (ks : List (List UInt8)) : List UInt8 × Int := if 128 < ks.length then (zeroK, 4) else (rootS ks, 0)
set_option maxHeartbeats 1000000 in
set_option maxRecDepth 100000 in
theorem root_any (ks : List (List UInt8)) (A : Option Addr) (c : Nat) (w : World) {n : Nat} (hn : ks.length = n) (hb : n ≤ 1000) (h : KR w A c ks) : Calls Tryz.prog 64 #[.slice A n c] w fun e w' => e = .returned (.agg (cellsB (rootS ks)).toArray) ∧ Below w.heap.size w w' := by
  have HZ := Lib.hid zero16
  have b0 := alloc_bel w (.cells (cellsB zeroK).toArray 23)
  have B0 := Lib.hid (Blk.new w 23 (cellsB zeroK).toArray)
  have HDL : Hid ((rootS ks).length = 16) := rootS_length _
  have hni : (n : Int) ≤ 1000 := by omega
  by_cases h0 : n = 0
  · subst h0
    obtain rfl : ks = [] := List.eq_nil_of_length_eq_zero hn
    have HD : Hid (∀ W, Calls Tryz.prog 68 #[.slice none 0 0] W fun e w' => e = .returned (.agg (cellsB (rootS [])).toArray) ∧ Below W.heap.size W w') := fun W => by rw [rootS_nil]; exact digest_any [] none 0 W rfl (BR.nil W) (by omega)
    generalize rootS [] = d at HD HDL
    have hdc : (cellsB d).length = 16 := by rw [cellsB_length, HDL.out]
    have hall := all16 d
    clear hn hb h
    go_enter Tryz.func64, Tryz.ntmps64
    go_wp2_with (go_at_call 68; rw [HZ.out]; refine (HD.out _).mono ?_; rintro e w1 ⟨rfl, hb1⟩; have b1 := bel_on b0 hb1; have Q1 := B0.out.below' hb1; have hr1 : (rowAt w1 w.heap.size).size = 16 := (by rw [Q1.row]; rfl); have hf1 := Q1.free; have HQ1 := Lib.hid Q1; clear Q1)
    exact bodyPost_ret (results_cell_row rfl _ _ w.heap.size _ _ (0, 0) _ rfl (HQ1.out.setRow (cellsB d).toArray) under_key rfl (cellsB_size _ HDL.out)) rfl ⟨rfl, below_setRow b1 (Nat.le_refl _) _⟩
  · have hn0 : ¬ (n : Int) = 0 := by omega
    have HD : Hid (∀ W, Below w.heap.size w W → Calls Tryz.prog 32 #[.slice A n c, .func (.func 98) #[] #[], .func (.func 99) #[] #[]] W fun e w' => e = .returned (.agg (cellsB (rootS ks)).toArray) ∧ Below W.heap.size W w') := fun W hW => rootFold_any n ks A c W hn (by omega) hb (h.below hW)
    generalize rootS ks = d at HD HDL
    have hdc : (cellsB d).length = 16 := by rw [cellsB_length, HDL.out]
    have hall := all16 d
    clear hn hb h h0
    go_enter Tryz.func64, Tryz.ntmps64
    go_wp2_with (go_at_call 32; rw [HZ.out]; refine (HD.out _ b0).mono ?_; rintro e w1 ⟨rfl, hb1⟩; have b1 := bel_on b0 hb1; have Q1 := B0.out.below' hb1; have hr1 : (rowAt w1 w.heap.size).size = 16 := (by rw [Q1.row]; rfl); have hf1 := Q1.free; have HQ1 := Lib.hid Q1; clear Q1)
    exact bodyPost_ret (results_cell_row rfl _ _ w.heap.size _ _ (0, 0) _ rfl (HQ1.out.setRow (cellsB d).toArray) under_key rfl (cellsB_size _ HDL.out)) rfl ⟨rfl, below_setRow b1 (Nat.le_refl _) _⟩

set_option maxHeartbeats 1000000 in
set_option maxRecDepth 100000 in
theorem Root_any (ks : List (List UInt8)) (A : Option Addr) (c : Nat) (w : World) {n : Nat} (hn : ks.length = n) (h : KR w A c ks) : Calls Tryz.prog 28 #[.slice A n c] w fun e w' => e = .returned (.tuple #[.agg (cellsB (rtS ks).1).toArray, .int .i64 (rtS ks).2]) ∧ Below w.heap.size w w' := by
  have HZ := Lib.hid zero16
  have hnl : (n : Int) ≤ 140737488351232 := by have := h.len; omega
  have b0 := alloc_bel w (.cells (cellsB zeroK).toArray 23)
  have B0 := Lib.hid (Blk.new w 23 (cellsB zeroK).toArray)
  have HDL : Hid ((rootS ks).length = 16) := rootS_length _
  by_cases hbig : 128 < n
  · have HS : Hid (rtS ks = (zeroK, 4)) := by unfold Hid rtS; rw [if_pos (by omega)]
    have hbi : (128 : Int) < n := by omega
    have hdc : (cellsB zeroK).length = 16 := rfl
    have hall := all16 zeroK
    have hr1 : (rowAt (w.alloc (.cells (cellsB zeroK).toArray 23)) w.heap.size).size = 16 := by rw [B0.out.row]; rfl
    have hf1 := B0.out.free
    clear hn h hbig
    go_enter Tryz.func28, Tryz.ntmps28
    go_wp2_with (rw [HZ.out]; refine wpList_buildTo rfl 23 #[] rfl (some 7) rfl (cellsB zeroK).toArray (by kernel_rfl) ?_)
    refine bodyPost_ret (v := .tuple #[.agg (cellsB zeroK).toArray, .int .i64 4]) ?_ rfl ⟨by rw [HS.out], below_setRow b0 (Nat.le_refl _) _⟩
    rw [results_cell_tmp Tryz.results28]
    simp [asAddr, Result.andThen, run_loadVar_row _ w.heap.size _ _ _ (0, 0) _ (B0.out.setRow (cellsB zeroK).toArray) under_key rfl (cellsB_size _ rfl)]
  · have HS : Hid (rtS ks = (rootS ks, 0)) := by unfold Hid rtS; rw [if_neg (by omega)]
    have hbi : (n : Int) ≤ 128 := by omega
    have HD : Hid (∀ W, Below w.heap.size w W → Calls Tryz.prog 64 #[.slice A n c] W fun e w' => e = .returned (.agg (cellsB (rootS ks)).toArray) ∧ Below W.heap.size W w') := fun W hW => root_any ks A c W hn (by omega) (h.below hW)
    generalize rootS ks = d at HD HDL HS
    have hdc : (cellsB d).length = 16 := by rw [cellsB_length, HDL.out]
    have hall := all16 d
    clear hn h hbig
    go_enter Tryz.func28, Tryz.ntmps28
    go_wp2_with (go_at_call 64; rw [HZ.out]; refine (HD.out _ b0).mono ?_; rintro e w1 ⟨rfl, hb1⟩; have b1 := bel_on b0 hb1; have Q1 := B0.out.below' hb1; have hr1 : (rowAt w1 w.heap.size).size = 16 := (by rw [Q1.row]; rfl); have hf1 := Q1.free; have HQ1 := Lib.hid Q1; clear Q1)
    refine bodyPost_ret (v := .tuple #[.agg (cellsB d).toArray, .int .i64 0]) ?_ rfl ⟨by rw [HS.out], below_setRow b1 (Nat.le_refl _) _⟩
    rw [results_cell_tmp Tryz.results28]
    simp [asAddr, Result.andThen, run_loadVar_row _ w.heap.size _ _ _ (0, 0) _ (HQ1.out.setRow (cellsB d).toArray) under_key rfl (cellsB_size _ HDL.out)]

end Go.Proofs.YtchnaimpmegbkaaGreatDoor

/- Lists of keys that the call owns: append. -/
namespace Go.Proofs.YtchnaimpmegbkaaGreatDoor
open Go.RowKit
set_option linter.unusedVariables false

theorem OK16.below {B : Nat} {w w' : World} {A : Option Addr} {c : Nat} {ks : List (List UInt8)} (h : OK16 B w A c ks) (hb : Below w.heap.size w w') : OK16 B w' A c ks := ownsRow_below h hb
theorem OK16.le_ {B B' : Nat} {w : World} {A : Option Addr} {c : Nat} {ks : List (List UInt8)} (h : OK16 B w A c ks) (hB : B' ≤ B) : OK16 B' w A c ks :=
  ⟨h.1, h.2.elim Or.inl (fun ⟨g, cap, cur, hv, hg, r⟩ => Or.inr ⟨g, cap, cur, hv, Nat.le_trans hB hg, r⟩)⟩
theorem OK16.nil (B : Nat) (w : World) : OK16 B w none 0 [] := World.ownsRow_nil w B _ 16
theorem OK16.kr {B : Nat} {w : World} {A : Option Addr} {c : Nat} {ks : List (List UInt8)} (h : OK16 B w A c ks) (hk : Keys16 ks) (hl : ks.length ≤ 140737488351232) : KR w A c ks := ⟨Rd.of_own h hl, hk⟩
theorem src_key (w : World) {k : List UInt8} (hk : k.length = 16) : Src (w.alloc (.cells (cellsB k).toArray 23)) 16 (some ⟨w.heap.size, 0, none⟩) 1 (cellsK [k]) := by
  refine ⟨by rw [cellsK_one, cellsB_length, hk], .inr ⟨_, rfl, fun j u hu => ?_⟩⟩
  rw [Addr.add_lit, Nat.zero_add, (Blk.new w 23 (cellsB k).toArray).cell j]
  rw [cellsK_one] at hu
  simpa using hu
section
variable {md : Region.Mode} {ops : Array Oper} {Q : Exit → Act → World → Prop} {S : World → Prop} {fuel : Nat} {listed : Array Bool} {a : Act} {w : World}
/-- append to a list of keys that the call owns, the only operation that may come up. -/
theorem hd_appendK (i : Nat) {oi : Oper} (s x : Operand) (hi : ops[i]? = some oi) (ho : oi.op = .call { callee := .builtin .append, args := #[s, x], argTypes := #[35, 35] }) (hg : oi.guard = none) (hr : Region.ready md ops listed = [i])
    (B : Nat) (A : Option Addr) (n c : Nat) (ks : List (List UInt8)) (hn : ks.length = n) (hs : a.eval s = .slice A n c) (hown : OK16 B w A c ks)
    (X : Option Addr) (m d : Nat) (news : List (List UInt8)) (hm : news.length = m) (hx : a.eval x = .slice X m d) (hsrc : Src w 16 X m (cellsK news)) (hlen : n + m ≤ 1000000) (hB : B ≤ w.heap.size)
    (h : ∀ A' c' w', OK16 B w' A' c' (ks ++ news) → Below B w w' → S w' ∧ wpAnyH Tryz.prog md ops Q S fuel (listed.setIfInBounds i true) (a.put oi.dst (.slice A' (n + m) c')) w') : wpAnyH Tryz.prog md ops Q S (fuel + 1) listed a w := by
  obtain ⟨i0, hi0, hz0, hz1, hz2⟩ := info_parts key_info3
  subst hn hm
  obtain ⟨A', c', w', hrun, h2, h3, h4⟩ := run_append_src (P := Tryz.prog) w B 35 oi.type 23 i0 (.agg (cellsB zeroK).toArray) 16 16 Tryz.underlying35 hi0 hz0 hz1 hz2 rfl (by omega) A ks.length c (cellsK ks) hown X news.length d (cellsK news) hsrc (cells_oneK news) (by simp only [maxLen]; omega) (by omega) hB
  refine hd_one i hi hg hr ?_
  refine Lib.wp_append_run w s x 35 35 ho _ _ hs hx _ w' hrun ?_
  refine h A' c' w' ?_ (grown_below (Below.refl _ _) hown h3 hB (Nat.le_refl _))
  unfold OK16
  rw [cellsK_append, List.length_append]
  exact h2
end
end Go.Proofs.YtchnaimpmegbkaaGreatDoor

/- The stream portion by portion, in plain words. -/
namespace Go.Proofs.YtchnaimpmegbkaaGreatDoor
open Go.RowKit
set_option linter.unusedVariables false

end Go.Proofs.YtchnaimpmegbkaaGreatDoor

/- Recordings, in plain words. -/
namespace Go.Proofs.YtchnaimpmegbkaaGreatDoor
open Go.RowKit
set_option linter.unusedVariables false

end Go.Proofs.YtchnaimpmegbkaaGreatDoor

/- A recording, made of its parts. -/
namespace Go.Proofs.YtchnaimpmegbkaaGreatDoor
open Go.RowKit
set_option linter.unusedVariables false

theorem fill_step (place : Nat → Option (Nat × Nat)) (cells : Array Value) (i off size : Nat) (v : Value) (vs : List Value) (rest : List (Nat × Value)) (hp : place i = some (off, size)) (hv : v.cells = vs.toArray) (hs : vs.length = size) (hf : off + size ≤ cells.size) :
    Instr.fill place cells ((i, v) :: rest) = Instr.fill place (cells.toList.take off ++ (vs ++ cells.toList.drop (off + size))).toArray rest := by
  rw [Instr.fill, hp]
  simp only [hv, List.size_toArray]
  rw [if_neg (by simp [hs]; omega)]
  congr 1
  have e := Great.foldl_set off vs 0 cells
  rw [← Array.foldl_toList, Array.toList_zipIdx]
  apply Array.ext_getElem?
  intro k
  rw [e.2 k]
  simp only [List.getElem?_toArray, List.getElem?_append, List.length_take, Array.length_toList, List.getElem?_take, List.getElem?_drop, Array.getElem?_toList]
  by_cases h1 : k < off
  · rw [if_neg (by omega), if_pos (by omega), if_pos h1]
  · rw [if_neg (show ¬ k < min off cells.size by omega)]
    rw [show min off cells.size = off from by omega]
    by_cases h2 : k - off < vs.length
    · rw [if_pos (by omega), if_pos h2, Nat.add_zero]
    · rw [if_neg (by omega), if_neg h2, show off + size + (k - off - vs.length) = k from by omega]
section
variable {P : Program} {md : Region.Mode} {ops : Array Oper} {Q : Exit → Act → World → Prop} {S : World → Prop} {fuel : Nat} {listed : Array Bool} {a : Act} {w : World}
/-- A value is made of its parts. -/
theorem hd_build (i : Nat) {oi : Oper} (t : TypeId) (parts : Array (Nat × Operand)) (vs : List (Nat × Value)) (cells : Array Value) (hi : ops[i]? = some oi) (ho : oi.op = .build t parts) (hg : oi.guard = none)
    (hs : Region.noSelect ops = true) (hf : Region.free md ops listed i = true) (hr : (Region.ready md ops listed).contains i = true) (hQ : ∀ c a w, Q (.panic c) (a.put oi.dst (.agg cells)) w → Q (.panic c) a w)
    (hv : (parts.map fun (i, x) => (i, a.eval x)).toList = vs) (hb : P.built t vs = some cells) (hw : S w)
    (h : wpAnyH P md ops Q S fuel (listed.setIfInBounds i true) (a.put oi.dst (.agg cells)) w) : wpAnyH P md ops Q S (fuel + 1) listed a w :=
  hd_take i (.agg cells) hi hg hs hf hr hQ (fun w _ => by
    unfold execOp
    rw [ho]
    simp only [Sem.run_bind, run_build w t _ cells (by rw [hv]; exact hb), Result.andThen_ok]
    rfl) hw h
end
theorem OB.low {B : Nat} {w : World} {A : Option Addr} {c : Nat} {l : List UInt8} (h : OB B w A c l) {g : Nat} (hg : g < B) (cs : Array Value) : OB B (w.setRow g cs) A c l :=
  ⟨h.1, h.2.elim Or.inl (fun ⟨g', cap, cur, hv, hB, hh, r⟩ => Or.inr ⟨g', cap, cur, hv, hB, by rw [← hh]; exact setRow_other w g g' cs (by omega), r⟩)⟩
end Go.Proofs.YtchnaimpmegbkaaGreatDoor

/- A list of one key, made. -/
namespace Go.Proofs.YtchnaimpmegbkaaGreatDoor
open Go.RowKit
set_option linter.unusedVariables false

theorem run_build_key (w : World) (k : List UInt8) (hk : k.length = 16) : (Instr.buildSlice 35 1 #[(0, .agg (cellsB k).toArray)]).run Tryz.prog w = .ok (.slice (some ⟨w.heap.size, 0, none⟩) 1 1) (w.alloc (.cells (cellsB k).toArray 23)) := by
  obtain ⟨i0, hi0, hz0, hz1, hz2⟩ := info_parts key_info3
  have hl : (cellsB k).length = 16 := by rw [cellsB_length, hk]
  refine run_buildSlice (P := Tryz.prog) w 35 23 1 #[(0, .agg (cellsB k).toArray)] (cellsB k).toArray i0 (.agg (cellsB zeroK).toArray) Tryz.underlying35 hi0 hz0 (by rw [hz1]; omega) (by rw [hz1]; omega) ?_
  rw [hz1]
  obtain ⟨z, hz, hzs⟩ : ∃ z, Array.map (fun x => (Value.agg (cellsB zeroK).toArray).cells[x % (Value.agg (cellsB zeroK).toArray).cells.size]!) (Array.range (1 * 16)) = z ∧ z.size = 16 := ⟨_, rfl, by simp⟩
  rw [hz]
  rw [show (#[(0, Value.agg (cellsB k).toArray)] : Array (Nat × Value)).toList = [(0, .agg (cellsB k).toArray)] from rfl, fill_step _ z 0 0 16 _ (cellsB k) _ rfl rfl hl (by omega), Instr.fill]
  refine congrArg (fun l => some (List.toArray l)) ?_
  simp [List.drop_of_length_le, hzs]
theorem op_buildKey {ops : Array Oper} {Q : Exit → Act → World → Prop} {a : Act} {w : World} {i : Nat} {oi : Oper} {K : Act → World → Prop} (k : List UInt8) (x : Operand) (hk : k.length = 16) (hi : ops[i]? = some oi) (ho : oi.op = .buildSlice 35 1 #[(0, x)]) (hg : oi.guard = none) (hx : a.eval x = .agg (cellsB k).toArray)
    (h : K (a.put oi.dst (.slice (some ⟨w.heap.size, 0, none⟩) 1 1)) (w.alloc (.cells (cellsB k).toArray 23))) : wpOp Tryz.prog ops Q i K a w :=
  op_run _ _ hi hg (by
    unfold execOp
    rw [ho]
    simp only [List.map_toArray, List.map_cons, List.map_nil, hx, Sem.run_bind, run_build_key w k hk, Result.andThen_ok]
    rfl) h
end Go.Proofs.YtchnaimpmegbkaaGreatDoor

/- A list of keys that the call owns, turned round. -/
namespace Go.Proofs.YtchnaimpmegbkaaGreatDoor
open Go.RowKit Go.Sort
set_option linter.unusedVariables false

def encK (k : List UInt8) : List Value := cellsB (padK k)
theorem encK_length (k : List UInt8) : (encK k).length = 16 := by rw [encK, cellsB_length, padK_length]
theorem encK_16 {k : List UInt8} (h : k.length = 16) : encK k = cellsB k := by rw [encK, padK_16 h]
theorem flatK_keys {ks : List (List UInt8)} (h : Keys16 ks) : flatK encK 16 ks.toArray = (cellsK ks).toArray := by
  have hl := cellsK_length h
  refine ext_get! (by simp [hl]) fun t ht => ?_
  have ht' : t < ks.length * 16 := by simpa using ht
  have hi : t / 16 < ks.length := by omega
  have hk : ks[t / 16].length = 16 := h _ (List.getElem_mem hi)
  rw [get_flatK _ _ _ _ (by simpa using ht')]
  have e1 : ks.toArray[t / 16]! = ks[t / 16] := by rw [getElem!_pos ks.toArray (t / 16) (by simpa using hi)]; simp
  have hm : t % 16 < (cellsB ks[t / 16]).length := by rw [cellsB_length, hk]; omega
  rw [e1, encK_16 hk, getElem!_pos (cellsB ks[t / 16]) (t % 16) hm, getElem!_pos (cellsK ks).toArray t (by simp [hl]; omega)]
  have h1 := cellsK_drop h (t / 16) (by omega)
  have h2 : ((cellsK ks).drop (t / 16 * 16))[t % 16]? = (cellsB ks[t / 16])[t % 16]? := by
    rw [h1, List.drop_eq_getElem_cons hi]
    unfold cellsK
    rw [List.flatMap_cons, List.getElem?_append_left hm]
  rw [List.getElem?_drop, show t / 16 * 16 + t % 16 = t by omega, List.getElem?_eq_getElem (by omega), List.getElem?_eq_getElem hm] at h2
  simpa using (Option.some.inj h2).symm
theorem Keys16.reverse {ks : List (List UInt8)} (h : Keys16 ks) : Keys16 ks.reverse := fun k hk => h k (List.mem_reverse.1 hk)

theorem holds_of_OK16 {B : Nat} {w : World} {A : Option Addr} {c : Nat} {ks : List (List UInt8)} (h : OK16 B w A c ks) (hk : Keys16 ks) (h0 : ks ≠ []) : ∃ g, A = some ⟨g, 0, none⟩ ∧ B ≤ g ∧ g < w.heap.size ∧ HoldsK encK 16 w g 0 ks.toArray := by
  rcases h.2 with ⟨_, e0⟩ | ⟨g, cap, cur, e0, hb, hg, hn, hm, hs, ht⟩
  · exact absurd (List.eq_nil_of_length_eq_zero e0) h0
  · injection e0 with e1 _ e3
    subst e3
    have hlt : g < w.heap.size := by
      rcases Nat.lt_or_ge g w.heap.size with h' | h'
      · exact h'
      · rw [Array.getElem?_eq_none h'] at hg; cases hg
    refine ⟨g, e1, hb, hlt, ?_⟩
    unfold HoldsK
    rw [flatK_keys hk]
    intro j hj
    have hl := cellsK_length hk
    have hj' : j < ks.length * 16 := by simpa [hl] using hj
    refine ⟨?_, by simp [World.frozen?, hg]⟩
    have e2 : (cur.toList.take (ks.length * 16))[j]? = (cellsK ks)[j]? := by rw [ht]
    rw [List.getElem?_take, if_pos (by omega), Array.getElem?_toList, List.getElem?_eq_getElem (by omega)] at e2
    simp only [World.cell?, hg, Nat.zero_add]
    simp only [Option.isSome_none, Bool.false_eq_true, if_false]
    rw [e2, getElem!_pos _ j (by simpa using hj)]
    simp
theorem OK16.put {B : Nat} {w : World} {g c q : Nat} {ks ys : List (List UInt8)} (h : OK16 B w (some ⟨g, 0, none⟩) c ks) (hk : Keys16 ys) (hl : ys.length = ks.length) : OK16 B (putRowK encK 16 (Sort.ahead w q) g 0 ys.toArray) (some ⟨g, 0, none⟩) c ys := by
  have hcl := cellsK_length hk
  refine ⟨hcl, .inr ?_⟩
  rcases h.2 with ⟨e0, _⟩ | ⟨g', cap', cur, e0, hb, hg, hn, hm, hs, ht⟩
  · cases e0
  · injection e0 with e1 _ e3
    injection e1 with e1
    injection e1 with e1
    subst e1; subst e3
    refine ⟨g, c, putCells id 0 (cellsK ys).toArray cur, rfl, hb, ?_, by omega, hm, by simpa [putCells] using hs, ?_⟩
    · unfold putRowK
      rw [flatK_keys hk]
      simp [putRow, mapBlock, Sort.ahead, Array.getElem?_modify, hg, onCells]
    · apply List.ext_getElem?
      intro j
      rw [List.getElem?_take, Array.getElem?_toList]
      by_cases hj : j < ys.length * 16
      · have hjc : j < cur.size := by omega
        simp only [if_pos hj, putCells, Array.getElem?_mapIdx, Array.getElem?_eq_getElem hjc, Option.map_some]
        rw [if_pos (by simp [hcl]; omega), List.getElem?_eq_getElem (by omega)]
        simp [getElem!_pos, show j < (cellsK ys).length by omega]
      · rw [if_neg hj, List.getElem?_eq_none (by omega)]
theorem below_putK {B : Nat} {w0 w : World} {g q : Nat} {d : Array (List UInt8)} (h : Below B w0 w) (hg : B ≤ g) : Below B w0 (putRowK encK 16 (Sort.ahead w q) g 0 d) := Lib.below_putRow h hg

theorem cells_holdsK {enc : List UInt8 → List Value} {k : Nat} {W : World} {blk off : Nat} {d : Array (List UInt8)} (h : HoldsK enc k W blk off d) (hk : ∀ x, (enc x).length = k) {i : Nat} (hi : i < d.size) :
    ∀ c v, (enc d[i]!)[c]? = some v → W.cell? ((⟨blk, off + i * k, none⟩ : Addr).add c) = some v := fun c v hv => by
  have hc : c < k := by have := (List.getElem?_eq_some_iff.1 hv).1; rwa [hk] at this
  rw [Addr.add_lit, (h.cell hi hc).1, getElem!_pos (enc d[i]!) c (by rw [hk]; exact hc)]
  rw [List.getElem?_eq_getElem (by rw [hk]; exact hc)] at hv
  exact hv
section
variable {P : Program} {md : Region.Mode} {ops : Array Oper} {Q : Exit → Act → World → Prop} {S : World → Prop} {fuel : Nat} {listed : Array Bool} {a : Act} {w : World} {K : Act → World → Prop}
/-- A load of a part of a row, at its turn. -/
theorem op_load_mid (i : Nat) {oi : Oper} (g o : Nat) (cs : List Value) (ty : TypeId) (x : Operand) {d : TypeDesc} (hi : ops[i]? = some oi) (ho : oi.op = .load ty x) (hg : oi.guard = none)
    (hx : a.eval x = .pointer (some ⟨g, o, none⟩)) (hc : w.rangeAt g o cs) (hu : P.underlying ty = some d) (hd : d.isRow = true) (hn : (P.info? ty).map (·.size) = some cs.length)
    (h : K (a.put oi.dst (.agg cs.toArray)) w) : wpOp P ops Q i K a w :=
  wpOp_of_wp hi hg (wp_load_mid ty x ho g o hx cs d hc hu hd hn h)
/-- A store into a part of a row, at its turn. -/
theorem op_store_mid (i : Nat) {oi : Oper} (g o : Nat) (cells : Array Value) (ty : TypeId) (x y : Operand) (hi : ops[i]? = some oi) (ho : oi.op = .store ty x y) (hg : oi.guard = none)
    (hx : a.eval x = .pointer (some ⟨g, o, none⟩)) (hy : a.eval y = .agg cells) (ht : w.there g o cells.size) (hn : (P.info? ty).map (·.size) = some cells.size) (h1 : cells.all (·.oneCell') = true)
    (h : K (a.put oi.dst undef) (w.setCells g o cells.toList)) : wpOp P ops Q i K a w :=
  wpOp_of_wp hi hg (wp_store_mid ty x y ho g o cells hx hy ht hn h1 h)
end

theorem info16 {l : List Value} (h : l.length = 16) : (Tryz.prog.info? 23).map (·.size) = some l.length := by rw [h]; kernel_rfl
set_option maxHeartbeats 4000000 in
set_option maxRecDepth 1000000 in
theorem reverse_row (blk off cap : Nat) (d : Array (List UInt8)) (w : World) (hH : HoldsK encK 16 w blk off d) (hsz : d.size ≤ 140737488351232) :
    Calls Tryz.prog 125 #[.slice (some ⟨blk, off, none⟩) d.size cap] w fun e w' => e = .returned (.tuple #[]) ∧ ∃ n, w' = putRowK encK 16 (Sort.ahead w n) blk off d.reverse := by
  have h1 : ∀ x, ∀ v ∈ encK x, v.oneCell' = true := fun x => cells_one _
  have hk := encK_length
  have mixed : Tryz.prog.follows Departure.mixedOrders = true := by kernel_rfl
  go_enter Tryz.func125, Tryz.ntmps125
  go_wp2_with fail
  go_loopg [2, 3] d.size (fun kk s2 s3 wr => ∃ (i jn : Nat) (jz : Int) (dk : Array (List UInt8)) (n : Nat), s2 = .int .i64 i ∧ s3 = .int .i64 jz ∧ ((i : Int) < jz → jz = jn ∧ jn < d.size) ∧ (¬ (i : Int) < jz → ¬ i < jn) ∧ jn - i ≤ kk ∧
    dk.size = d.size ∧ wr = putRowK encK 16 (Sort.ahead w n) blk off dk ∧ reverseLoop i jn dk = reverseLoop 0 (d.size - 1) d)
  case atStart => exact ⟨0, d.size - 1, (d.size : Int) - 1, d, 0, rfl, rfl, fun h => ⟨by omega, by omega⟩, fun h => by omega, by omega, rfl, (putRowK_self encK 16 w blk off d hH).symm, rfl⟩
  case round =>
    obtain ⟨i, jn, jz, dk, n, rfl, rfl, h1', h2, hkk, hds, hwr, heq⟩ := hrel
    by_cases hlt : (i : Int) < jz
    · obtain ⟨rfl, hjn⟩ := h1' hlt
      have hij : i < jn := by omega
      have hHd : HoldsK encK 16 wr.drew blk off dk := by rw [hwr]; exact holdsK_putRowK encK 16 _ blk off d dk (holdsK_ahead encK 16 w (n + 1) blk off d hH) hds
      have HLI : Hid (wr.drew.rangeAt blk (off + i * 16) (encK dk[i]!)) := fun j v hv => by have := cells_holdsK hHd hk (i := i) (by omega) j v hv; rwa [Addr.add_mid] at this
      have HLJ : Hid (wr.drew.rangeAt blk (off + jn * 16) (encK dk[jn]!)) := fun j v hv => by have := cells_holdsK hHd hk (i := jn) (by omega) j v hv; rwa [Addr.add_mid] at this
      have HT1 : Hid (wr.drew.there blk (off + i * 16) 16) := fun j hj => by have := hHd.cell (i := i) (c := j) (by omega) hj; exact ⟨by rw [this.1]; rfl, this.2⟩
      have HT2 : Hid (wr.drew.there blk (off + jn * 16) 16) := fun j hj => by have := hHd.cell (i := jn) (c := j) (by omega) hj; exact ⟨by rw [this.1]; rfl, this.2⟩
      have A : Aside (wr = putRowK encK 16 (Sort.ahead w n) blk off dk) := hwr
      have HOI : Hid (∀ v ∈ encK dk[i]!, v.oneCell' = true) := h1 _
      have HOJ : Hid (∀ v ∈ encK dk[jn]!, v.oneCell' = true) := h1 _
      have HSI : Hid ((encK dk[i]!).length = 16) := hk _
      have HSJ : Hid ((encK dk[jn]!).length = 16) := hk _
      have hni : (d.size : Int) ≤ 140737488351232 := by omega
      have hji : (jn : Int) < d.size := by omega
      have hnid : i < d.size := by omega
      have hnii : ¬ d.size ≤ i := by omega
      have hnij : ¬ d.size ≤ jn := by omega
      have hll : (i : Int) < d.size := by omega
      clear hwr hHd hH h1' h2 h1 hk
      obtain ⟨ci, hci⟩ : ∃ c, c = encK dk[i]! := ⟨_, rfl⟩
      obtain ⟨cj, hcj⟩ : ∃ c, c = encK dk[jn]! := ⟨_, rfl⟩
      rw [← hci] at HLI HOI HSI
      rw [← hcj] at HLJ HOJ HSJ
      have CI : Hid (ci = encK dk[i]! ∧ cj = encK dk[jn]!) := ⟨hci, hcj⟩
      clear hci hcj
      go_wp2_with fail
      refine wp_region_noPanic ?_
      refine wp_region_held_drew (S := fun _ => True) (by kernel_rfl) trivial (fun hS => ?_)
      refine hd_take 0 (.slice (some ⟨blk, off, none⟩) d.size cap) rfl rfl (by kernel_rfl) (by kernel_rfl) (by kernel_rfl) (fun _ _ _ h => h) (fun w _ => by go_simp) hS ?_
      refine hd_take 1 (.int .i64 (i : Int)) rfl rfl (by kernel_rfl) (by kernel_rfl) (by kernel_rfl) (fun _ _ _ h => h) (fun w _ => by go_simp) hS ?_
      refine hd_take 2 (.slice (some ⟨blk, off, none⟩) d.size cap) rfl rfl (by kernel_rfl) (by kernel_rfl) (by kernel_rfl) (fun _ _ _ h => h) (fun w _ => by go_simp) hS ?_
      refine hd_take 3 (.int .i64 (jn : Int)) rfl rfl (by kernel_rfl) (by kernel_rfl) (by kernel_rfl) (fun _ _ _ h => h) (fun w _ => by go_simp) hS ?_
      refine hd_take 4 (.slice (some ⟨blk, off, none⟩) d.size cap) rfl rfl (by kernel_rfl) (by kernel_rfl) (by kernel_rfl) (fun _ _ _ h => h) (fun w _ => by go_simp) hS ?_
      refine hd_take 5 (.int .i64 (jn : Int)) rfl rfl (by kernel_rfl) (by kernel_rfl) (by kernel_rfl) (fun _ _ _ h => h) (fun w _ => by go_simp) hS ?_
      refine hd_take 8 (.slice (some ⟨blk, off, none⟩) d.size cap) rfl rfl (by kernel_rfl) (by kernel_rfl) (by kernel_rfl) (fun _ _ _ h => h) (fun w _ => by go_simp) hS ?_
      refine hd_take 9 (.int .i64 (i : Int)) rfl rfl (by kernel_rfl) (by kernel_rfl) (by kernel_rfl) (fun _ _ _ h => h) (fun w _ => by go_simp) hS ?_
      simp only [List.getElem_toArray, List.getElem_cons_succ, List.getElem_cons_zero, Act.put, List.setIfInBounds_toArray, List.set_cons_zero, List.set_cons_succ]
      refine hd_take 6 (.pointer (some ⟨blk, off + jn * 16, none⟩)) rfl rfl (by kernel_rfl) (by kernel_rfl) (by kernel_rfl) (fun _ _ _ h => h) (fun w _ => by go_simp) hS ?_
      refine hd_take 10 (.pointer (some ⟨blk, off + i * 16, none⟩)) rfl rfl (by kernel_rfl) (by kernel_rfl) (by kernel_rfl) (fun _ _ _ h => h) (fun w _ => by go_simp) hS ?_
      simp only [List.getElem_toArray, List.getElem_cons_succ, List.getElem_cons_zero, Act.put, List.setIfInBounds_toArray, List.set_cons_zero, List.set_cons_succ]
      refine hd_two 7 11 (by kernel_rfl) (op_load_mid 7 blk (off + jn * 16) cj 23 (.tmp 20) rfl rfl rfl rfl HLJ.out under_key rfl (info16 HSJ.out) ⟨trivial, ?_⟩) (op_load_mid 11 blk (off + i * 16) ci 23 (.tmp 24) rfl rfl rfl rfl HLI.out under_key rfl (info16 HSI.out) ⟨trivial, ?_⟩)
      · simp only [List.getElem_toArray, List.getElem_cons_succ, List.getElem_cons_zero, Act.put, List.setIfInBounds_toArray, List.set_cons_zero, List.set_cons_succ]
        refine hd_sole 11 (by kernel_rfl) (op_load_mid 11 blk (off + i * 16) ci 23 (.tmp 24) rfl rfl rfl rfl HLI.out under_key rfl (info16 HSI.out) ⟨trivial, ?_⟩)
        simp only [List.getElem_toArray, List.getElem_cons_succ, List.getElem_cons_zero, Act.put, List.setIfInBounds_toArray, List.set_cons_zero, List.set_cons_succ]
        refine hd_take 12 (.pointer (some ⟨blk, off + i * 16, none⟩)) rfl rfl (by kernel_rfl) (by kernel_rfl) (by kernel_rfl) (fun _ _ _ h => h) (fun w _ => by go_simp) trivial ?_
        simp only [List.getElem_toArray, List.getElem_cons_succ, List.getElem_cons_zero, Act.put, List.setIfInBounds_toArray, List.set_cons_zero, List.set_cons_succ]
        refine hd_sole 13 (by kernel_rfl) (op_store_mid 13 blk (off + i * 16) cj.toArray 23 (.tmp 26) (.tmp 21) rfl rfl rfl rfl rfl (by rw [List.size_toArray, HSJ.out]; exact HT1.out) (by rw [List.size_toArray]; exact info16 HSJ.out) (all_oneCell_toArray HOJ.out) ⟨trivial, ?_⟩)
        simp only [List.getElem_toArray, List.getElem_cons_succ, List.getElem_cons_zero, Act.put, List.setIfInBounds_toArray, List.set_cons_zero, List.set_cons_succ]
        refine hd_take 14 (.pointer (some ⟨blk, off + jn * 16, none⟩)) rfl rfl (by kernel_rfl) (by kernel_rfl) (by kernel_rfl) (fun _ _ _ h => h) (fun w _ => by go_simp) trivial ?_
        simp only [List.getElem_toArray, List.getElem_cons_succ, List.getElem_cons_zero, Act.put, List.setIfInBounds_toArray, List.set_cons_zero, List.set_cons_succ]
        refine hd_sole 15 (by kernel_rfl) (op_store_mid 15 blk (off + jn * 16) ci.toArray 23 (.tmp 27) (.tmp 25) rfl rfl rfl rfl rfl (by rw [List.size_toArray, HSI.out]; exact World.there_setCells HT2.out _ _ _) (by rw [List.size_toArray]; exact info16 HSI.out) (all_oneCell_toArray HOI.out) ⟨trivial, ?_⟩)
        refine wpAnyH_done (by kernel_rfl) (NoPanic.normal ?_) _
        simp only [List.getElem_toArray, List.getElem_cons_succ, List.getElem_cons_zero, Act.put, List.setIfInBounds_toArray, List.set_cons_zero, List.set_cons_succ]
        go_wp2_with fail
        go_roundg (jn - 1 - (i + 1))
        case measure => omega
        case rel =>
          rw [reverseLoop, if_pos hij] at heq
          refine ⟨i + 1, jn - 1, (jn : Int) - 1, swp dk i jn, n + 1, by simp, rfl, fun h => ⟨by omega, by omega⟩, fun h => by omega, Nat.le_refl _, by rw [size_swp]; exact hds, ?_, heq⟩
          rw [CI.out.1, CI.out.2, A.out]
          exact swap_worldK encK 16 encK_length w n 1 blk off dk i jn (by omega) (by omega)
      · simp only [List.getElem_toArray, List.getElem_cons_succ, List.getElem_cons_zero, Act.put, List.setIfInBounds_toArray, List.set_cons_zero, List.set_cons_succ]
        refine hd_sole 7 (by kernel_rfl) (op_load_mid 7 blk (off + jn * 16) cj 23 (.tmp 20) rfl rfl rfl rfl HLJ.out under_key rfl (info16 HSJ.out) ⟨trivial, ?_⟩)
        simp only [List.getElem_toArray, List.getElem_cons_succ, List.getElem_cons_zero, Act.put, List.setIfInBounds_toArray, List.set_cons_zero, List.set_cons_succ]
        refine hd_take 12 (.pointer (some ⟨blk, off + i * 16, none⟩)) rfl rfl (by kernel_rfl) (by kernel_rfl) (by kernel_rfl) (fun _ _ _ h => h) (fun w _ => by go_simp) trivial ?_
        simp only [List.getElem_toArray, List.getElem_cons_succ, List.getElem_cons_zero, Act.put, List.setIfInBounds_toArray, List.set_cons_zero, List.set_cons_succ]
        refine hd_sole 13 (by kernel_rfl) (op_store_mid 13 blk (off + i * 16) cj.toArray 23 (.tmp 26) (.tmp 21) rfl rfl rfl rfl rfl (by rw [List.size_toArray, HSJ.out]; exact HT1.out) (by rw [List.size_toArray]; exact info16 HSJ.out) (all_oneCell_toArray HOJ.out) ⟨trivial, ?_⟩)
        simp only [List.getElem_toArray, List.getElem_cons_succ, List.getElem_cons_zero, Act.put, List.setIfInBounds_toArray, List.set_cons_zero, List.set_cons_succ]
        refine hd_take 14 (.pointer (some ⟨blk, off + jn * 16, none⟩)) rfl rfl (by kernel_rfl) (by kernel_rfl) (by kernel_rfl) (fun _ _ _ h => h) (fun w _ => by go_simp) trivial ?_
        simp only [List.getElem_toArray, List.getElem_cons_succ, List.getElem_cons_zero, Act.put, List.setIfInBounds_toArray, List.set_cons_zero, List.set_cons_succ]
        refine hd_sole 15 (by kernel_rfl) (op_store_mid 15 blk (off + jn * 16) ci.toArray 23 (.tmp 27) (.tmp 25) rfl rfl rfl rfl rfl (by rw [List.size_toArray, HSI.out]; exact World.there_setCells HT2.out _ _ _) (by rw [List.size_toArray]; exact info16 HSI.out) (all_oneCell_toArray HOI.out) ⟨trivial, ?_⟩)
        refine wpAnyH_done (by kernel_rfl) (NoPanic.normal ?_) _
        simp only [List.getElem_toArray, List.getElem_cons_succ, List.getElem_cons_zero, Act.put, List.setIfInBounds_toArray, List.set_cons_zero, List.set_cons_succ]
        go_wp2_with fail
        go_roundg (jn - 1 - (i + 1))
        case measure => omega
        case rel =>
          rw [reverseLoop, if_pos hij] at heq
          refine ⟨i + 1, jn - 1, (jn : Int) - 1, swp dk i jn, n + 1, by simp, rfl, fun h => ⟨by omega, by omega⟩, fun h => by omega, Nat.le_refl _, by rw [size_swp]; exact hds, ?_, heq⟩
          rw [CI.out.1, CI.out.2, A.out]
          exact swap_worldK encK 16 encK_length w n 1 blk off dk i jn (by omega) (by omega)
    · have hnot := h2 hlt
      go_wp2
      go_end0
      refine ⟨rfl, n, ?_⟩
      rw [reverseLoop, if_neg hnot] at heq
      rw [← Lib.reverseLoop_reverse, ← heq]
theorem reverse_none (w : World) : Calls Tryz.prog 125 #[.slice none 0 0] w fun e w' => e = .returned (.tuple #[]) ∧ w' = w := by
  go_enter Tryz.func125, Tryz.ntmps125
  go_wp2
  go_loopg [2, 3] 0 (fun _ s2 s3 wr => s2 = .int .i64 0 ∧ s3 = .int .i64 (-1) ∧ wr = w)
  case atStart => exact ⟨rfl, rfl, rfl⟩
  case round =>
    obtain ⟨rfl, rfl, rfl⟩ := hrel
    go_wp2
    go_end0
    exact ⟨rfl, rfl⟩
theorem putRowK_nil (w : World) (g : Nat) : putRowK encK 16 w g 0 #[] = w := by
  refine putRowK_self encK 16 w g 0 #[] (fun j hj => ?_)
  simp [flatK] at hj
theorem reverse_any {B : Nat} (ks : List (List UInt8)) (A : Option Addr) (c : Nat) (w : World) {n : Nat} (hn : ks.length = n) (h : OK16 B w A c ks) (hk : Keys16 ks) (hl : n ≤ 140737488351232) :
    Calls Tryz.prog 125 #[.slice A n c] w fun e w' => e = .returned (.tuple #[]) ∧ OK16 B w' A c ks.reverse ∧ Below B w w' := by
  subst hn
  by_cases h0 : ks = []
  · subst h0
    rcases h.2 with ⟨e, _⟩ | ⟨g, cap, cur, e, hb, hg, hn, hm, hs, ht⟩
    · injection e with e1 e2 e3
      subst e1; subst e3
      refine (reverse_none w).mono ?_
      rintro e w' ⟨rfl, rfl⟩
      exact ⟨rfl, h, Below.refl _ _⟩
    · injection e with e1 e2 e3
      subst e1; subst e3
      refine (reverse_row g 0 c #[] w (fun j hj => by simp [flatK] at hj) (by simp)).mono ?_
      rintro e w' ⟨rfl, q, rfl⟩
      rw [show (#[] : Array (List UInt8)).reverse = #[] from rfl, putRowK_nil]
      exact ⟨rfl, h, ⟨rfl, rfl, rfl, Nat.le_refl _, fun _ _ => rfl⟩⟩
  · obtain ⟨g, rfl, hb, hg, hh⟩ := holds_of_OK16 h hk h0
    refine (reverse_row g 0 c ks.toArray w hh (by simpa using hl)).mono ?_
    rintro e w' ⟨rfl, q, rfl⟩
    rw [show ks.toArray.reverse = ks.reverse.toArray by simp]
    exact ⟨rfl, h.put hk.reverse (by simp), below_putK (Below.refl _ _) hb⟩
end Go.Proofs.YtchnaimpmegbkaaGreatDoor

/- The reference's path. -/
namespace Go.Proofs.YtchnaimpmegbkaaGreatDoor
open Go.RowKit
set_option linter.unusedVariables false

end Go.Proofs.YtchnaimpmegbkaaGreatDoor

/- The program's path. -/
namespace Go.Proofs.YtchnaimpmegbkaaGreatDoor
open Go.RowKit
set_option linter.unusedVariables false

theorem Keys16.snoc {ks : List (List UInt8)} (h : Keys16 ks) {r : List UInt8} (hr : r.length = 16) : Keys16 (ks ++ [r]) := fun k hk => by
  rcases List.mem_append.1 hk with hk | hk
  · exact h k hk
  · rw [List.mem_singleton.1 hk]; exact hr

set_option maxHeartbeats 4000000 in
set_option maxRecDepth 100000 in
theorem prove_any (ks : List (List UInt8)) (i : Nat) (A : Option Addr) (c : Nat) (w : World) {n : Nat} (hn : ks.length = n) (hi : i < n) (hbig : n ≤ 1000) (h : KR w A c ks) :
    Calls Tryz.prog 100 #[.slice A n c, .int .i64 (i : Int)] w fun e w' => (∃ A' c', e = .returned (.slice A' (pathS ks i).length c') ∧ OK16 w.heap.size w' A' c' (pathS ks i)) ∧ Below w.heap.size w w' := by
  obtain ⟨P0, hP0⟩ : ∃ P, P = pathS ks i := ⟨_, rfl⟩
  have HN := Lib.hid hn
  have HI := Lib.hid hi
  have HH := Lib.hid h
  have HP0 := Lib.hid hP0
  have HBG := Lib.hid hbig
  rw [← hP0]
  clear hP0 hn h hi hbig
  go_enter Tryz.func100, Tryz.ntmps100
  go_wp2_with fail
  go_loopw [0, 1, 5] (fun v0 v1 v5 wr => ∃ (ls : List (List UInt8)) (m : Nat) (j : Nat) (B : Option Addr) (d : Nat) (os : List (List UInt8)) (q : Nat) (O : Option Addr) (co : Nat), v0 = .slice B m d ∧ v1 = .int .i64 (j : Int) ∧ v5 = .slice O q co ∧ ls.length = m ∧ os.length = q ∧ j < m ∧ m + q ≤ n ∧ KR w B d ls ∧ OK16 w.heap.size wr O co os ∧ Keys16 os ∧ P0 = pathS ls j ++ os.reverse ∧ Below w.heap.size w wr) (fun v0 _ _ _ => lenV v0)
  case atStart => exact ⟨ks, n, i, A, c, [], 0, none, 0, rfl, rfl, rfl, HN.out, rfl, HI.out, by omega, HH.out, OK16.nil _ _, (by intro k hk; cases hk), (by rw [HP0.out]; simp), Below.refl _ _⟩
  case round =>
    obtain ⟨ls, m, j, B, d, os, q, O, co, rfl, rfl, rfl, hls, hos, hj, hmq, hkr, hok, hk16, hP, hb⟩ := hrel
    have hbig := HBG.out
    have HB := Lib.hid hb
    have HOK := Lib.hid hok
    have HOS := Lib.hid hos
    have HKK := Lib.hid hk16
    by_cases h2 : 2 ≤ m
    · have hs1 := splitS_pos m
      have hs2 := splitS_lt h2
      have hcl : m ≤ d := by have := Rd.le hkr.1; omega
      have hni : (2 : Int) ≤ (m : Int) := by omega
      have hmb : (m : Int) ≤ 1000 := by omega
      have hgt : (1 : Int) < (m : Int) := by omega
      have HSP : Hid (∀ W, Calls Tryz.prog 67 #[.int .i64 (m : Int)] W fun e w' => e = .returned (.int .i64 ((splitS m : Nat) : Int)) ∧ W = w') := fun W => split_any m W h2 (by omega)
      have hsl1 := fun W => slice_keys_to W B m d (splitS m) (by omega)
      have hsl2 := fun W => slice_keys_from W B m d (splitS m) (by omega)
      by_cases hk : j < splitS m
      · have hjk : (j : Int) < ((splitS m : Nat) : Int) := by omega
        have HPE : Hid (P0 = pathS (ls.take (splitS m)) j ++ (os ++ [rootS (ls.drop (splitS m))]).reverse) := by unfold Hid; have := pathS_low (l := ls) (i := j) (by omega) (by rw [hls]; exact hk); rw [hls] at this; rw [hP, this]; simp
        have HRL : Hid ((rootS (ls.drop (splitS m))).length = 16) := rootS_length _
        have HLS : Hid ((ls.take (splitS m)).length = splitS m) := by unfold Hid; simp only [List.length_take, List.length_drop]; omega
        have HKR : Hid (KR w B d (ls.take (splitS m))) := hkr.take _ (by omega)
        have HRO : Hid (∀ W, Below wr.heap.size wr W → Calls Tryz.prog 64 #[.slice (dropK B (splitS m) d) (m - splitS m) (d - splitS m)] W fun e w' => e = .returned (.agg (cellsB (rootS (ls.drop (splitS m)))).toArray) ∧ Below W.heap.size W w') := fun W hW => root_any _ _ _ W (by rw [List.length_drop]; omega) (by omega) ((hkr.below (bel_on hb hW)).drop _ (by omega))
        generalize rootS (ls.drop (splitS m)) = r at HPE HRL HRO
        generalize ls.take (splitS m) = ls' at HPE HLS HKR
        generalize splitS m = k at *
        clear hP hkr hls hk ls
        go_wp2_with (go_at_call 67; refine (HSP.out _).mono ?_; rintro e w1 ⟨rfl, rfl⟩)
        refine wp_region_noPanic ?_
        refine wp_region_held_drew (S := fun _ => True) (by kernel_rfl) trivial (fun hS => ?_)
        refine hd_take 0 (.slice O q co) rfl rfl (by kernel_rfl) (by kernel_rfl) (by kernel_rfl) (fun _ _ _ h => h) (fun w _ => by go_simp) trivial ?_
        refine hd_take 1 (.slice B m d) rfl rfl (by kernel_rfl) (by kernel_rfl) (by kernel_rfl) (fun _ _ _ h => h) (fun w _ => by go_simp) trivial ?_
        refine hd_take 2 (.int .i64 (k : Int)) rfl rfl (by kernel_rfl) (by kernel_rfl) (by kernel_rfl) (fun _ _ _ h => h) (fun w _ => by go_simp) trivial ?_
        refine hd_take 7 (.slice B m d) rfl rfl (by kernel_rfl) (by kernel_rfl) (by kernel_rfl) (fun _ _ _ h => h) (fun w _ => by go_simp) trivial ?_
        refine hd_take 8 (.int .i64 (k : Int)) rfl rfl (by kernel_rfl) (by kernel_rfl) (by kernel_rfl) (fun _ _ _ h => h) (fun w _ => by go_simp) trivial ?_
        simp only [List.getElem_toArray, List.getElem_cons_succ, List.getElem_cons_zero, Act.put, List.setIfInBounds_toArray, List.set_cons_zero, List.set_cons_succ]
        refine hd_take 3 (.slice (dropK B k d) (m - k) (d - k)) rfl rfl (by kernel_rfl) (by kernel_rfl) (by kernel_rfl) (fun _ _ _ h => h) (fun w _ => by go_simp) trivial ?_
        refine hd_take 9 (.slice B k d) rfl rfl (by kernel_rfl) (by kernel_rfl) (by kernel_rfl) (fun _ _ _ h => h) (fun w _ => by go_simp) trivial ?_
        simp only [List.getElem_toArray, List.getElem_cons_succ, List.getElem_cons_zero, Act.put, List.setIfInBounds_toArray, List.set_cons_zero, List.set_cons_succ]
        refine hd_calls 4 64 #[.slice (dropK B k d) (m - k) (d - k)] rfl rfl (by kernel_rfl) (by go_simp) ((HRO.out _ (Below.refl _ _).drew).mono ?_)
        rintro e w4 ⟨rfl, hb4⟩
        have b4 : Below wr.heap.size wr w4 := bel_on (Below.refl _ _).drew hb4
        have ho4 := HOK.out.below b4
        refine ⟨_, rfl, trivial, ?_⟩
        simp only [List.getElem_toArray, List.getElem_cons_succ, List.getElem_cons_zero, Act.put, List.setIfInBounds_toArray, List.set_cons_zero, List.set_cons_succ]
        have ho5 := ho4.below (alloc_bel w4 (.cells (cellsB r).toArray 23))
        have b5 := b4.alloc b4.size (.cells (cellsB r).toArray 23)
        have hsrc := src_key w4 HRL.out
        have hz5 : w.heap.size ≤ (w4.alloc (.cells (cellsB r).toArray 23)).heap.size := Nat.le_trans HB.out.size b5.size
        refine hd_sole 5 (by kernel_rfl) (op_buildKey r _ HRL.out rfl rfl rfl rfl ⟨trivial, ?_⟩)
        simp only [List.getElem_toArray, List.getElem_cons_succ, List.getElem_cons_zero, Act.put, List.setIfInBounds_toArray, List.set_cons_zero, List.set_cons_succ]
        refine hd_appendK 6 (.tmp 16) (.tmp 21) rfl rfl rfl (by kernel_rfl) w.heap.size O q co os HOS.out rfl ho5 _ 1 1 [r] rfl rfl hsrc (by omega) hz5 ?_
        intro A6 c6 w6 ho6 hb6
        refine ⟨trivial, ?_⟩
        simp only [List.getElem_toArray, List.getElem_cons_succ, List.getElem_cons_zero, Act.put, List.setIfInBounds_toArray, List.set_cons_zero, List.set_cons_succ]
        refine hd_take 10 (.slice A6 (q + 1) c6) rfl rfl (by kernel_rfl) (by kernel_rfl) (by kernel_rfl) (fun _ _ _ h => h) (fun w _ => by go_simp) trivial ?_
        refine hd_take 11 (.slice B k d) rfl rfl (by kernel_rfl) (by kernel_rfl) (by kernel_rfl) (fun _ _ _ h => h) (fun w _ => by go_simp) trivial ?_
        refine wpAnyH_done (by kernel_rfl) (NoPanic.normal ?_) _
        simp only [List.getElem_toArray, List.getElem_cons_succ, List.getElem_cons_zero, Act.put, List.setIfInBounds_toArray, List.set_cons_zero, List.set_cons_succ]
        have HO6 := Lib.hid ho6
        have b6 : Below w.heap.size w w6 := (HB.out.trans (Below.mono b5 HB.out.size)).trans hb6
        clear ho6 ho5 ho4 hsrc
        go_wp2_with fail
        go_roundw
        case rel => exact ⟨_, k, j, B, d, os ++ [r], q + 1, A6, c6, rfl, rfl, rfl, HLS.out, by rw [List.length_append, HOS.out]; rfl, by omega, by omega, HKR.out, HO6.out, HKK.out.snoc HRL.out, HPE.out, b6⟩
        case measure => simp only [lenV]; omega
      · have hjk : ¬ (j : Int) < ((splitS m : Nat) : Int) := by omega
        have hjk2 : ((splitS m : Nat) : Int) ≤ (j : Int) := by omega
        have HPE : Hid (P0 = pathS (ls.drop (splitS m)) (j - splitS m) ++ (os ++ [rootS (ls.take (splitS m))]).reverse) := by unfold Hid; have := pathS_high (l := ls) (i := j) (by omega) (by rw [hls]; exact hk); rw [hls] at this; rw [hP, this]; simp
        have HRL : Hid ((rootS (ls.take (splitS m))).length = 16) := rootS_length _
        have HLS : Hid ((ls.drop (splitS m)).length = m - splitS m) := by unfold Hid; simp only [List.length_take, List.length_drop]; omega
        have HKR : Hid (KR w (dropK B (splitS m) d) (d - splitS m) (ls.drop (splitS m))) := hkr.drop _ (by omega)
        have HRO : Hid (∀ W, Below wr.heap.size wr W → Calls Tryz.prog 64 #[.slice B (splitS m) d] W fun e w' => e = .returned (.agg (cellsB (rootS (ls.take (splitS m)))).toArray) ∧ Below W.heap.size W w') := fun W hW => root_any _ _ _ W (by rw [List.length_take]; omega) (by omega) ((hkr.below (bel_on hb hW)).take _ (by omega))
        generalize rootS (ls.take (splitS m)) = r at HPE HRL HRO
        generalize ls.drop (splitS m) = ls' at HPE HLS HKR
        generalize splitS m = k at *
        clear hP hkr hls hk ls
        go_wp2_with (go_at_call 67; refine (HSP.out _).mono ?_; rintro e w1 ⟨rfl, rfl⟩)
        refine wp_region_noPanic ?_
        refine wp_region_held_drew (S := fun _ => True) (by kernel_rfl) trivial (fun hS => ?_)
        refine hd_take 0 (.slice O q co) rfl rfl (by kernel_rfl) (by kernel_rfl) (by kernel_rfl) (fun _ _ _ h => h) (fun w _ => by go_simp) trivial ?_
        refine hd_take 1 (.slice B m d) rfl rfl (by kernel_rfl) (by kernel_rfl) (by kernel_rfl) (fun _ _ _ h => h) (fun w _ => by go_simp) trivial ?_
        refine hd_take 2 (.int .i64 (k : Int)) rfl rfl (by kernel_rfl) (by kernel_rfl) (by kernel_rfl) (fun _ _ _ h => h) (fun w _ => by go_simp) trivial ?_
        refine hd_take 7 (.slice B m d) rfl rfl (by kernel_rfl) (by kernel_rfl) (by kernel_rfl) (fun _ _ _ h => h) (fun w _ => by go_simp) trivial ?_
        refine hd_take 8 (.int .i64 (k : Int)) rfl rfl (by kernel_rfl) (by kernel_rfl) (by kernel_rfl) (fun _ _ _ h => h) (fun w _ => by go_simp) trivial ?_
        refine hd_take 10 (.int .i64 (j : Int)) rfl rfl (by kernel_rfl) (by kernel_rfl) (by kernel_rfl) (fun _ _ _ h => h) (fun w _ => by go_simp) trivial ?_
        refine hd_take 11 (.int .i64 (k : Int)) rfl rfl (by kernel_rfl) (by kernel_rfl) (by kernel_rfl) (fun _ _ _ h => h) (fun w _ => by go_simp) trivial ?_
        simp only [List.getElem_toArray, List.getElem_cons_succ, List.getElem_cons_zero, Act.put, List.setIfInBounds_toArray, List.set_cons_zero, List.set_cons_succ]
        refine hd_take 3 (.slice B k d) rfl rfl (by kernel_rfl) (by kernel_rfl) (by kernel_rfl) (fun _ _ _ h => h) (fun w _ => by go_simp) trivial ?_
        refine hd_take 9 (.slice (dropK B k d) (m - k) (d - k)) rfl rfl (by kernel_rfl) (by kernel_rfl) (by kernel_rfl) (fun _ _ _ h => h) (fun w _ => by go_simp) trivial ?_
        refine hd_take 12 (.int .i64 ((j : Int) - (k : Int))) rfl rfl (by kernel_rfl) (by kernel_rfl) (by kernel_rfl) (fun _ _ _ h => h) (fun w _ => by go_simp; rw [IntKind.wrap_i64]; omega) trivial ?_
        simp only [List.getElem_toArray, List.getElem_cons_succ, List.getElem_cons_zero, Act.put, List.setIfInBounds_toArray, List.set_cons_zero, List.set_cons_succ]
        refine hd_calls 4 64 #[.slice B k d] rfl rfl (by kernel_rfl) (by go_simp) ((HRO.out _ (Below.refl _ _).drew).mono ?_)
        rintro e w4 ⟨rfl, hb4⟩
        have b4 : Below wr.heap.size wr w4 := bel_on (Below.refl _ _).drew hb4
        have ho4 := HOK.out.below b4
        refine ⟨_, rfl, trivial, ?_⟩
        simp only [List.getElem_toArray, List.getElem_cons_succ, List.getElem_cons_zero, Act.put, List.setIfInBounds_toArray, List.set_cons_zero, List.set_cons_succ]
        have ho5 := ho4.below (alloc_bel w4 (.cells (cellsB r).toArray 23))
        have b5 := b4.alloc b4.size (.cells (cellsB r).toArray 23)
        have hsrc := src_key w4 HRL.out
        have hz5 : w.heap.size ≤ (w4.alloc (.cells (cellsB r).toArray 23)).heap.size := Nat.le_trans HB.out.size b5.size
        refine hd_sole 5 (by kernel_rfl) (op_buildKey r _ HRL.out rfl rfl rfl rfl ⟨trivial, ?_⟩)
        simp only [List.getElem_toArray, List.getElem_cons_succ, List.getElem_cons_zero, Act.put, List.setIfInBounds_toArray, List.set_cons_zero, List.set_cons_succ]
        refine hd_appendK 6 (.tmp 26) (.tmp 31) rfl rfl rfl (by kernel_rfl) w.heap.size O q co os HOS.out rfl ho5 _ 1 1 [r] rfl rfl hsrc (by omega) hz5 ?_
        intro A6 c6 w6 ho6 hb6
        refine ⟨trivial, ?_⟩
        simp only [List.getElem_toArray, List.getElem_cons_succ, List.getElem_cons_zero, Act.put, List.setIfInBounds_toArray, List.set_cons_zero, List.set_cons_succ]
        refine hd_take 13 (.slice A6 (q + 1) c6) rfl rfl (by kernel_rfl) (by kernel_rfl) (by kernel_rfl) (fun _ _ _ h => h) (fun w _ => by go_simp) trivial ?_
        refine hd_take 14 (.slice (dropK B k d) (m - k) (d - k)) rfl rfl (by kernel_rfl) (by kernel_rfl) (by kernel_rfl) (fun _ _ _ h => h) (fun w _ => by go_simp) trivial ?_
        refine hd_take 15 (.int .i64 ((j : Int) - (k : Int))) rfl rfl (by kernel_rfl) (by kernel_rfl) (by kernel_rfl) (fun _ _ _ h => h) (fun w _ => by go_simp) trivial ?_
        refine wpAnyH_done (by kernel_rfl) (NoPanic.normal ?_) _
        simp only [List.getElem_toArray, List.getElem_cons_succ, List.getElem_cons_zero, Act.put, List.setIfInBounds_toArray, List.set_cons_zero, List.set_cons_succ]
        have HO6 := Lib.hid ho6
        have b6 : Below w.heap.size w w6 := (HB.out.trans (Below.mono b5 HB.out.size)).trans hb6
        clear ho6 ho5 ho4 hsrc
        go_wp2_with fail
        go_roundw
        case rel => exact ⟨_, m - k, j - k, _, _, os ++ [r], q + 1, A6, c6, rfl, by rw [show ((j - k : Nat) : Int) = (j : Int) - (k : Int) from by omega], rfl, HLS.out, by rw [List.length_append, HOS.out]; rfl, by omega, by omega, HKR.out, HO6.out, HKK.out.snoc HRL.out, HPE.out, b6⟩
        case measure => simp only [lenV]; omega
    · obtain rfl : m = 1 := by omega
      have hpe : P0 = os.reverse := by rw [hP, pathS_one (by omega)]; rfl
      have hql : os.reverse.length = q := by rw [List.length_reverse, hos]
      have HRV : Hid (∀ W, Below wr.heap.size wr W → Calls Tryz.prog 125 #[.slice O q co] W fun e w' => e = .returned (.tuple #[]) ∧ OK16 w.heap.size w' O co os.reverse ∧ Below w.heap.size W w') := fun W hW => reverse_any os O co W hos (hok.below hW) hk16 (by omega)
      have HPE := Lib.hid hpe
      have HQL : Hid (P0.length = q) := by unfold Hid; rw [hpe]; exact hql
      clear hP hkr hls hok hk16 hos ls hj HOK HOS HKK hpe hql
      generalize os.reverse = rs at HRV HPE
      go_wp2_with (go_at_call 125; refine (HRV.out _ (Below.refl _ _)).mono ?_; rintro e w2 ⟨rfl, ho2, hb2⟩; have HO2 := Lib.hid ho2; clear ho2)
      go_ret
      exact ⟨⟨O, co, by show _ = Ending.returned (.slice O P0.length co); rw [HQL.out]; rfl, by rw [HPE.out]; exact HO2.out⟩, hb.trans hb2⟩
end Go.Proofs.YtchnaimpmegbkaaGreatDoor

/- The reference's part of a list, for a growth. -/
namespace Go.Proofs.YtchnaimpmegbkaaGreatDoor
open Go.RowKit
set_option linter.unusedVariables false

theorem OK16.lit (B : Nat) (w : World) (k : List UInt8) (hk : k.length = 16) (hB : B ≤ w.heap.size) : OK16 B (w.alloc (.cells (cellsB k).toArray 23)) (some ⟨w.heap.size, 0, none⟩) 1 [k] := by
  have h := World.ownsRow_lit (e := 23) (size := 16) w (cellsB k).toArray 1 hB (by simp [maxLen]) (by simp [cellsB, hk])
  unfold OK16
  rw [cellsK_one]
  simpa using h

end Go.Proofs.YtchnaimpmegbkaaGreatDoor

/- The proof of a leaf: the program's and the reference's; the reference's growth. -/
namespace Go.Proofs.YtchnaimpmegbkaaGreatDoor
open Go.RowKit
set_option linter.unusedVariables false
set_option linter.unusedSimpArgs false

/-- The cells of a proof, or of a growth. -/
def prC (a b : Int) (A : Option Addr) (n c : Nat) : List Value := [.int .i64 a, .int .i64 b, .slice A n c]
theorem bcell {W w1 : World} (hb : Below W.heap.size W w1) : (∀ b o, b < W.heap.size → w1.cell? ⟨b, o, none⟩ = W.cell? ⟨b, o, none⟩) ∧ (∀ b o, b < W.heap.size → w1.frozen? ⟨b, o, none⟩ = W.frozen? ⟨b, o, none⟩) :=
  ⟨fun b o h => hb.cell (p := ⟨b, o, none⟩) h, fun b o h => hb.frozen (p := ⟨b, o, none⟩) h⟩
theorem OK16.set_low {B : Nat} {w : World} {A : Option Addr} {c : Nat} {ks : List (List UInt8)} (h : OK16 B w A c ks) (p : Addr) (u : Value) (hp : p.block < B) : OK16 B (w.setCell p u) A c ks := by
  refine ⟨h.1, h.2.elim Or.inl fun ⟨g, cap, cur, hv, hg, hh, r⟩ => Or.inr ⟨g, cap, cur, hv, hg, ?_, r⟩⟩
  exact (Below.heap_setCell w p u g (by omega)).trans hh
/-- What is returned: a proof or a growth, with an error. -/
def PrEnd (B : Nat) (a b : Int) (P : List (List UInt8)) (e0 : Int) (e : Ending) (w' : World) : Prop := ∃ A c, e = .returned (.tuple #[.agg (prC a b A P.length c).toArray, .int .i64 e0]) ∧ OK16 B w' A c P
structure PrV where
  a : Int
  b : Int
  P : List (List UInt8)
  e : Int
def proveS (ks : List (List UInt8)) (i : Int) : PrV := if 128 < ks.length then ⟨0, 0, [], 4⟩ else if i < 0 ∨ (ks.length : Int) ≤ i then ⟨0, 0, [], 2⟩ else ⟨ks.length, i, pathS ks i.toNat, 0⟩
set_option maxHeartbeats 1000000 in
theorem proof_any (ks : List (List UInt8)) (i : Nat) (A : Option Addr) (c : Nat) (w : World) {n : Nat} (hn : ks.length = n) (hi : i < n) (hbig : n ≤ 1000) (h : KR w A c ks) :
    Calls Tryz.prog 65 #[.slice A n c, .int .i64 (i : Int)] w fun e w' => (∃ A' c', e = .returned (.agg (prC n i A' (pathS ks i).length c').toArray) ∧ OK16 w.heap.size w' A' c' (pathS ks i)) ∧ Below w.heap.size w w' := by
  have hni : (n : Int) ≤ 1000 := by omega
  have b0 := alloc_bel w (.cells #[.int .i64 0, .int .i64 0, .slice none 0 0] 41)
  have HP : Hid (∀ W, Below w.heap.size w W → Calls Tryz.prog 100 #[.slice A n c, .int .i64 (i : Int)] W fun e w' => (∃ A' c', e = .returned (.slice A' (pathS ks i).length c') ∧ OK16 W.heap.size w' A' c' (pathS ks i)) ∧ Below W.heap.size W w') := fun W hW => prove_any ks i A c W hn hi hbig (h.below hW)
  generalize pathS ks i = P at HP ⊢
  generalize P.length = m at HP ⊢
  clear hn hi hbig h
  go_enter Tryz.func65, Tryz.ntmps65
  go_wp2_with (go_at_call 100; refine (HP.out _ b0).mono ?_; rintro e w1 ⟨⟨A1, c1, rfl, ho1⟩, hb1⟩; have b1 := Lib.hid (bel_on b0 hb1); have HO := Lib.hid ho1; have hz := hb1.size; obtain ⟨hc, hf⟩ := bcell hb1; clear ho1 hb1)
  have hlt : w.heap.size < w1.heap.size := by simp at hz; omega
  refine bodyPost_ret (v := .agg #[.int .i64 (n : Int), .int .i64 (i : Int), .slice A1 m c1]) (by simp [results, Tryz.f65, go_sem, hc, hf, hlt]) rfl ⟨⟨A1, c1, rfl, (((HO.out.set_low _ _ (by simp)).set_low _ _ (by simp)).set_low _ _ (by simp)).le_ (by simp)⟩, ?_⟩
  exact ((b1.out.setCell (by simp) _).setCell (by simp) _).setCell (by simp) _

set_option maxHeartbeats 1000000 in
theorem Prove_any (ks : List (List UInt8)) (i : Int) (A : Option Addr) (c : Nat) (w : World) {n : Nat} (hn : ks.length = n) (h : KR w A c ks) :
    Calls Tryz.prog 29 #[.slice A n c, .int .i64 i] w fun e w' => PrEnd w.heap.size (proveS ks i).a (proveS ks i).b (proveS ks i).P (proveS ks i).e e w' ∧ Below w.heap.size w w' := by
  have hnl : (n : Int) ≤ 140737488351232 := by have := h.len; omega
  have b0 := alloc_bel w (.cells #[.int .i64 0, .int .i64 0, .slice none 0 0] 41)
  rcases (by omega : 128 < n ∨ (n ≤ 128 ∧ i < 0) ∨ (n ≤ 128 ∧ 0 ≤ i ∧ (n : Int) ≤ i) ∨ (n ≤ 128 ∧ 0 ≤ i ∧ i < (n : Int))) with hw | ⟨hw, hl⟩ | ⟨hw, hl, hh⟩ | ⟨hw, hl, hh⟩
  all_goals have hwi : (n : Int) ≤ 128 ∨ 128 < (n : Int) := by omega
  · have hw2 : 128 < (n : Int) := by omega
    have HS : Hid (proveS ks i = ⟨0, 0, [], 4⟩) := by unfold Hid proveS; rw [if_pos (by omega)]
    clear hn h hw hwi
    go_enter Tryz.func29, Tryz.ntmps29
    go_wp2
    exact bodyPost_ret (v := .tuple #[.agg #[.int .i64 0, .int .i64 0, .slice none 0 0], .int .i64 4]) (by simp [results, Tryz.f29, go_sem]) rfl ⟨⟨none, 0, by rw [HS.out]; rfl, by rw [HS.out]; exact OK16.nil _ _⟩, b0⟩
  · have hw2 : (n : Int) ≤ 128 := by omega
    have HS : Hid (proveS ks i = ⟨0, 0, [], 2⟩) := by unfold Hid proveS; rw [if_neg (by omega), if_pos (by omega)]
    clear hn h hw hwi
    go_enter Tryz.func29, Tryz.ntmps29
    go_wp2
    exact bodyPost_ret (v := .tuple #[.agg #[.int .i64 0, .int .i64 0, .slice none 0 0], .int .i64 2]) (by simp [results, Tryz.f29, go_sem]) rfl ⟨⟨none, 0, by rw [HS.out]; rfl, by rw [HS.out]; exact OK16.nil _ _⟩, b0⟩
  · have hw2 : (n : Int) ≤ 128 := by omega
    have HS : Hid (proveS ks i = ⟨0, 0, [], 2⟩) := by unfold Hid proveS; rw [if_neg (by omega), if_pos (by omega)]
    clear hn h hw hwi
    go_enter Tryz.func29, Tryz.ntmps29
    go_wp2
    exact bodyPost_ret (v := .tuple #[.agg #[.int .i64 0, .int .i64 0, .slice none 0 0], .int .i64 2]) (by simp [results, Tryz.f29, go_sem]) rfl ⟨⟨none, 0, by rw [HS.out]; rfl, by rw [HS.out]; exact OK16.nil _ _⟩, b0⟩
  · have hw2 : (n : Int) ≤ 128 := by omega
    have HS : Hid (proveS ks i = ⟨n, i, pathS ks i.toNat, 0⟩) := by unfold Hid proveS; rw [if_neg (by omega), if_neg (by omega), hn]
    obtain ⟨j, rfl⟩ : ∃ j : Nat, i = (j : Int) := ⟨i.toNat, by omega⟩
    rw [Int.toNat_natCast] at HS
    have HP : Hid (∀ W, Below w.heap.size w W → Calls Tryz.prog 65 #[.slice A n c, .int .i64 (j : Int)] W fun e w' => (∃ A' c', e = .returned (.agg #[.int .i64 (n : Int), .int .i64 (j : Int), .slice A' (pathS ks j).length c']) ∧ OK16 W.heap.size w' A' c' (pathS ks j)) ∧ Below W.heap.size W w') := fun W hW => proof_any ks j A c W hn (by omega) (by omega) (h.below hW)
    generalize pathS ks j = P at HP HS
    obtain ⟨m, hm⟩ : ∃ m, P.length = m := ⟨_, rfl⟩
    rw [hm] at HP
    have HM := Lib.hid hm
    clear hn h hw hwi hm
    go_enter Tryz.func29, Tryz.ntmps29
    go_wp2_with (go_at_call 65; refine (HP.out _ b0).mono ?_; rintro e w1 ⟨⟨A1, c1, rfl, ho1⟩, hb1⟩; have b1 := Lib.hid (bel_on b0 hb1); have HO := Lib.hid ho1; have hz := hb1.size; obtain ⟨hc, hf⟩ := bcell hb1; clear ho1 hb1)
    have hlt : w.heap.size < w1.heap.size := by simp at hz; omega
    refine bodyPost_ret (v := .tuple #[.agg #[.int .i64 (n : Int), .int .i64 (j : Int), .slice A1 m c1], .int .i64 0]) (by simp [results, Tryz.f29, go_sem, hc, hf, hlt]) rfl ⟨⟨A1, c1, by rw [HS.out]; show _ = Ending.returned (.tuple #[.agg #[.int .i64 (n : Int), .int .i64 (j : Int), .slice A1 P.length c1], .int .i64 0]); rw [HM.out], by rw [HS.out]; exact (((HO.out.set_low _ _ (by simp)).set_low _ _ (by simp)).set_low _ _ (by simp)).le_ (by simp)⟩, ?_⟩
    exact ((b1.out.setCell (by simp) _).setCell (by simp) _).setCell (by simp) _

end Go.Proofs.YtchnaimpmegbkaaGreatDoor

/- Texts that are taken: the variable, the rows, their bytes. -/
namespace Go.Proofs.YtchnaimpmegbkaaGreatDoor
open Go.RowKit
set_option linter.unusedVariables false
set_option linter.unusedSimpArgs false
attribute [local go_sem] run_storeCells_key run_storeCells_new

theorem Blk.ne_own {w : World} {g : Nat} {t : TypeId} {cs : Array Value} (h : Blk w g t cs) {B' : Nat} {t' : TypeId} {s' n' : Nat} {v' : Value} {xs' : List Value} (h' : w.ownsRow B' t' s' v' n' xs') (hne : t ≠ t') : some g ≠ v'.ownBlock := by
  rcases h'.2 with ⟨rfl, _⟩ | ⟨g', cap', cur', rfl, _, hh', _⟩
  · simp [Value.ownBlock]
  · intro e
    have : g = g' := by simpa [Value.ownBlock] using e
    subst this
    unfold Blk at h
    rw [h] at hh'
    injection hh' with hh'
    injection hh' with _ ht
    exact hne ht
theorem Blk.grown {w w' : World} {g : Nat} {t : TypeId} {cs : Array Value} (h : Blk w g t cs) {B' : Nat} {t' : TypeId} {s' n' : Nat} {v' : Value} {xs' : List Value} (h' : w.ownsRow B' t' s' v' n' xs') (hne : t ≠ t') (hg : w.grownBy w' v'.ownBlock) : Blk w' g t cs :=
  (hg.block g h.lt (h.ne_own h' hne)).trans h
theorem own_block_apart {w w' : World} {B : Nat} {t t' : TypeId} {s n g : Nat} {v : Value} {xs : List Value} {cs : Array Value} (h : w.ownsRow B t s v n xs) (hb : Blk w g t' cs) (hne : t' ≠ t) (hk : ∀ k, k ≠ g → w'.heap[k]? = w.heap[k]?) : w'.ownsRow B t s v n xs :=
  ⟨h.1, h.2.elim Or.inl fun ⟨g', cap, cur, hv, hB, hh, r⟩ => Or.inr ⟨g', cap, cur, hv, hB, (hk g' fun e => by
    subst e
    unfold Blk at hb
    rw [hb] at hh
    injection hh with hh
    injection hh with _ ht
    exact hne ht).trans hh, r⟩⟩
theorem own_set_apart {w : World} {B : Nat} {t t' : TypeId} {s n g : Nat} {v : Value} {xs : List Value} {cs : Array Value} (h : w.ownsRow B t s v n xs) (hb : Blk w g t' cs) (hne : t' ≠ t) (i : Nat) (u : Value) : (w.setCell ⟨g, i, none⟩ u).ownsRow B t s v n xs :=
  own_block_apart h hb hne fun k hk => Below.heap_setCell w _ u k hk
theorem own_row_apart {w : World} {B : Nat} {t t' : TypeId} {s n g : Nat} {v : Value} {xs : List Value} {cs : Array Value} (h : w.ownsRow B t s v n xs) (hb : Blk w g t' cs) (hne : t' ≠ t) (cs' : Array Value) : (w.setRow g cs').ownsRow B t s v n xs :=
  own_block_apart h hb hne fun k hk => setRow_other w g k cs' hk
theorem src_one (w : World) (v : Value) (t : TypeId) : Src (w.alloc (.cells #[v] t)) 1 (some ⟨w.heap.size, 0, none⟩) 1 [v] := by
  refine ⟨rfl, .inr ⟨_, rfl, fun j u hu => ?_⟩⟩
  rw [Addr.add_lit, Nat.zero_add, (Blk.new w t #[v]).cell j]
  simpa using hu

/-- Keys in memory stay as they are. -/
def KeepT (w w' : World) : Prop := ∀ k cs, Blk w k 23 cs → Blk w' k 23 cs
theorem KeepT.refl (w : World) : KeepT w w := fun _ _ h => h
theorem KeepT.trans {w1 w2 w3 : World} (h : KeepT w1 w2) (h' : KeepT w2 w3) : KeepT w1 w3 := fun k cs hk => h' k cs (h k cs hk)
theorem KeepT.of_below {w w' : World} (h : Below w.heap.size w w') : KeepT w w' := fun k cs hk => hk.below' h
theorem KeepT.grown {w w' : World} {B' : Nat} {t' : TypeId} {s' n' : Nat} {v' : Value} {xs' : List Value} (h' : w.ownsRow B' t' s' v' n' xs') (hne : 23 ≠ t') (hg : w.grownBy w' v'.ownBlock) : KeepT w w' := fun k cs hk => hk.grown h' hne hg
theorem KeepT.set {w : World} {g i : Nat} {t : TypeId} {cs : Array Value} (hb : Blk w g t cs) (hne : t ≠ 23) (u : Value) : KeepT w (w.setCell ⟨g, i, none⟩ u) := fun k cs' hk => by
  refine hk.far ?_ u
  intro e
  subst e
  unfold Blk at hb hk
  rw [hk] at hb
  injection hb with hb
  injection hb with _ ht
  exact hne ht.symm
theorem KeepT.rowAbove {w w1 : World} (h : KeepT w w1) {g : Nat} (hg : w.heap.size ≤ g) (cs : Array Value) : KeepT w (w1.setRow g cs) := fun k cs' hk => (setRow_other w1 g k cs (by have := hk.lt; omega)).trans (h k cs' hk)
theorem KeepT.row {w w1 : World} (h : KeepT w w1) (cs : Array Value) : KeepT w (w1.setRow w.heap.size cs) := fun k cs' hk => (setRow_other w1 w.heap.size k cs (by have := hk.lt; omega)).trans (h k cs' hk)
/-- Texts that were taken. -/
def TX (B : Nat) (w : World) (g : Nat) (ts : List (List UInt8)) : Prop :=
  ∃ A c rs, rs.map BRow.l = ts ∧ B ≤ g ∧ Blk w g 86 #[.slice A rs.length c] ∧ RO B w A c rs ∧ (∀ r ∈ rs, OB B w r.A r.c r.l) ∧ ∀ t ∈ ts, t.length ≤ 1000
theorem TX.below {B : Nat} {w w' : World} {g : Nat} {ts : List (List UInt8)} (h : TX B w g ts) (hb : Below w.heap.size w w') : TX B w' g ts := by
  obtain ⟨A, c, rs, h1, h2, h3, h4, h5, h6⟩ := h
  exact ⟨A, c, rs, h1, h2, h3.below' hb, h4.below hb, fun r hr => (h5 r hr).below hb, h6⟩
theorem TX.lt {B : Nat} {w : World} {g : Nat} {ts : List (List UInt8)} (h : TX B w g ts) : g < w.heap.size := by
  obtain ⟨A, c, rs, h1, h2, h3, h4, h5, h6⟩ := h
  exact h3.lt
theorem TX.le {B : Nat} {w : World} {g : Nat} {ts : List (List UInt8)} (h : TX B w g ts) : B ≤ g := by
  obtain ⟨A, c, rs, h1, h2, h3, h4, h5, h6⟩ := h
  exact h2
theorem TX.row {B : Nat} {w : World} {g : Nat} {ts : List (List UInt8)} (h : TX B w g ts) {g' : Nat} {cs : Array Value} (hb : Blk w g' 23 cs) (cs' : Array Value) : TX B (w.setRow g' cs') g ts := by
  obtain ⟨A, c, rs, h1, h2, h3, h4, h5, h6⟩ := h
  refine ⟨A, c, rs, h1, h2, ?_, own_row_apart h4 hb (by decide) cs', fun r hr => own_row_apart (h5 r hr) hb (by decide) cs', h6⟩
  refine (setRow_other w g' g cs' fun e => ?_).trans h3
  subst e
  unfold Blk at hb h3
  rw [hb] at h3
  injection h3 with h3
  injection h3 with _ ht
  exact absurd ht (by decide)

theorem wpList_append_text (w : World) {ops : Array Oper} {rest : List Oper} {o : Oper} {a : Act} {Q : Exit → Act → World → Prop} (hgd : o.guard = none) (s x : Operand)
    (ho : o.op = .call { callee := .builtin .append, args := #[s, x], argTypes := #[86, 86] })
    (B : Nat) (A : Option Addr) (n c : Nat) (rs : List BRow) (hn : rs.length = n) (hs : a.eval s = .slice A n c) (hown : RO B w A c rs)
    (r : BRow) (X : Option Addr) (d : Nat) (hx : a.eval x = .slice X 1 d) (hsrc : Src w 1 X 1 [r.v])
    (hlen : n ≤ 1000000) (hB : B ≤ w.heap.size)
    (h : ∀ A' c' w', RO B w' A' c' (rs ++ [r]) → Below B w w' → w.grownBy w' (Value.ownBlock (.slice A n c)) → wpList Tryz.prog ops Q rest (a.put o.dst (.slice A' (n + 1) c')) w') : wpList Tryz.prog ops Q (o :: rest) a w := by
  obtain ⟨i0, hi, hz0, hz1, hz2⟩ := info_parts rows_info
  subst hn
  refine wpList_append_src w hgd s x 86 ho B 31 i0 (.slice none 0 0) 1 24 Tryz.underlying86 hi hz0 hz1 hz2 rfl (by omega) A rs.length c (rs.map BRow.v) hs hown X 1 d [r.v] hx hsrc (by intro u hu; rw [List.mem_singleton.1 hu]; rfl)
    (by simp only [maxLen]; omega) (by omega) hB ?_
  intro A' c' w' h1 h2 h3
  refine h A' c' w' ?_ (grown_below (Below.refl _ _) hown h2 hB (Nat.le_refl _)) h2
  unfold RO
  rw [List.map_append, List.length_append]
  exact h1

theorem taken {B : Nat} {w : World} {g : Nat} {A A0 : Option Addr} {c c0 q0 q : Nat} {rs : List BRow} {ts : List (List UInt8)} (hro : RO B w A c rs) (hob : ∀ r ∈ rs, OB B w r.A r.c r.l) (hb : Blk w g 86 #[.slice A0 q0 c0]) (hts : rs.map BRow.l = ts) (hq : rs.length = q) (hg : B ≤ g) (hbd : ∀ t ∈ ts, t.length ≤ 1000) :
    TX B (w.setCell ⟨g, 0, none⟩ (.slice A q c)) g ts := by
  subst hq
  refine ⟨A, c, rs, hts, hg, ?_, own_set_apart hro hb (by decide) _ _, fun r hr => own_set_apart (hob r hr) hb (by decide) _ _, hbd⟩
  have := hb.set_ 0 (.slice A rs.length c)
  simpa using this

set_option maxHeartbeats 1000000 in
set_option maxRecDepth 100000 in
theorem take_any {B : Nat} (ts : List (List UInt8)) (t : List UInt8) (X : Option Addr) (d g : Nat) (w : World) {m : Nat} (hm : t.length = m) (h : TX B w g ts) (hx : OB B w X d t) (hl : m ≤ 1000) (hts : ts.length ≤ 100000) :
    Calls Tryz.prog 34 #[.pointer (some ⟨g, 0, none⟩), .slice X m d] w fun e w' => e = .returned (.agg (cellsB (digS t)).toArray) ∧ TX B w' g (ts ++ [t]) ∧ KeepT w w' ∧ Below B w w' := by
  have hglt := h.lt
  have hBg := h.le
  obtain ⟨A, c, rs, hrs, _, hblk, hro, hob, hbd⟩ := h
  have HBD : Hid (∀ x ∈ ts ++ [t], x.length ≤ 1000) := fun x hx => by
    rcases List.mem_append.1 hx with hx | hx
    · exact hbd x hx
    · rw [List.mem_singleton.1 hx, hm]; exact hl
  obtain ⟨q, hq⟩ : ∃ q, rs.length = q := ⟨_, rfl⟩
  have hqb : q ≤ 100000 := by rw [← hq, ← List.length_map (f := BRow.l), hrs]; exact hts
  rw [hq] at hblk
  have HZ := Lib.hid zero16
  have HQ := Lib.hid hq
  have hc0 : w.cell? ⟨g, 0, none⟩ = some (.slice A q c) := hblk.cell 0
  have HKEY := Lib.hid (Blk.new w 23 (cellsB zeroK).toArray)
  have b0 := alloc_bel w (.cells (cellsB zeroK).toArray 23)
  have b1 : Below w.heap.size w ((w.alloc (.cells (cellsB zeroK).toArray 23)).alloc (.cells #[.slice X m d] 31)) := alloc2_bel w _ _
  have HSRC := Lib.hid (src_one (w.alloc (.cells (cellsB zeroK).toArray 23)) (.slice X m d) 31)
  have HKEY1 := Lib.hid (HKEY.out.alloc (.cells #[.slice X m d] 31))
  have HRO := Lib.hid (hro.below b1)
  have HBLK := Lib.hid (hblk.below' b1)
  have HOB : Hid (∀ r ∈ rs ++ [⟨X, d, t⟩], OB B ((w.alloc (.cells (cellsB zeroK).toArray 23)).alloc (.cells #[.slice X m d] 31)) r.A r.c r.l) := fun r hr => by
    rcases List.mem_append.1 hr with hr | hr
    · exact (hob r hr).below b1
    · rw [List.mem_singleton.1 hr]; exact hx.below b1
  have HRS : Hid ((rs ++ [(⟨X, d, t⟩ : BRow)]).map BRow.l = ts ++ [t]) := by unfold Hid; rw [List.map_append, hrs]; rfl
  have HM := Lib.hid hm
  have HDL : Hid ((digS t).length = 16) := digS_length _
  have HD : Hid (∀ A c W, BR W A c t → Calls Tryz.prog 68 #[.slice A m c] W fun e w' => e = .returned (.agg (cellsB (digS t)).toArray) ∧ Below W.heap.size W w') := fun A c W hW => digest_any t A c W hm hW (by omega)
  generalize digS t = dg at HDL HD ⊢
  have hdc : (cellsB dg).length = 16 := by rw [cellsB_length, HDL.out]
  have hall := all16 dg
  have hBg' : B ≤ w.heap.size := by omega
  clear hrs hq hblk hro hob hx hm hbd
  go_enter Tryz.func34, Tryz.ntmps34
  go_wp2_with (first
    | (at_builtin; rw [HZ.out]; refine wpList_append_text _ rfl (.tmp 8) (.tmp 10) rfl B A q c rs HQ.out rfl HRO.out ⟨X, d, t⟩ (some ⟨w.heap.size + 1, 0, none⟩) 1 rfl (by rw [show BRow.v ⟨X, d, t⟩ = .slice X m d from by unfold BRow.v; rw [HM.out]]; have := HSRC.out; rw [World.size_alloc] at this; exact this) (by omega) (by have := HKEY1.out.lt; omega) ?_; intro A5 c5 w5 hro5 hbl5 hg5; rw [← HQ.out] at hg5; have K5 := Lib.hid ((KeepT.of_below b1).trans (KeepT.grown HRO.out (by decide) hg5)); have HBLK5 := Lib.hid (HBLK.out.grown HRO.out (by decide) hg5); have HKEY5 := Lib.hid (HKEY1.out.grown HRO.out (by decide) hg5); have HOB5 : Hid (∀ r ∈ rs ++ [(⟨X, d, t⟩ : BRow)], OB B w5 r.A r.c r.l) := (fun r hr => own_kept (HOB.out r hr) HRO.out (by decide) hg5); have HRO5 := Lib.hid hro5; have hc5 : w5.cell? ⟨g, 0, none⟩ = some (.slice A q c) := HBLK5.out.cell 0; have hf5 : w5.frozen? ⟨g, 0, none⟩ = false := HBLK5.out.frozen 0; have B5 : Hid (Below B w w5) := ((b1.mono hBg').trans hbl5); clear hro5 hg5 hbl5)
    | (go_at_call 68; have ho6 := own_set_apart (HOB5.out ⟨X, d, t⟩ (by simp)) HBLK5.out (by decide) 0 (.slice A5 (q + 1) c5); rw [HM.out] at ho6; refine (HD.out X d _ (OB.br (by unfold OB; rw [HM.out]; exact ho6) (by rw [HM.out]; omega))).mono ?_; rintro e w7 ⟨rfl, hb7⟩; have TX7 : Hid (TX B w7 g (ts ++ [t])) := (taken HRO5.out HOB5.out HBLK5.out HRS.out (by rw [List.length_append, HQ.out]; rfl) hBg HBD.out).below hb7; have KEY7 := (HKEY5.out.far (p := ⟨g, 0, none⟩) (by simp; omega) (.slice A5 (q + 1) c5)).below' hb7; have hr7 : (rowAt w7 w.heap.size).size = 16 := (by rw [KEY7.row]; rfl); have hf7 := KEY7.free; have B6 : Below B w (w5.setCell ⟨g, 0, none⟩ (.slice A5 (q + 1) c5)) := B5.out.setCell hBg _; have B7 := Lib.hid (B6.trans (hb7.mono (by have := B5.out.size; simp; omega))); have HKEY7 := Lib.hid KEY7; have K7 := Lib.hid ((K5.out.trans (KeepT.set (i := 0) HBLK5.out (by decide) (.slice A5 (q + 1) c5))).trans (KeepT.of_below hb7)); clear KEY7 ho6))
  exact bodyPost_ret (results_cell_row rfl _ _ w.heap.size _ _ (0, 0) _ rfl (HKEY7.out.setRow (cellsB dg).toArray) under_key rfl (cellsB_size _ HDL.out)) rfl ⟨rfl, TX7.out.row HKEY7.out _, K7.out.row _, below_setRow B7.out hBg' _⟩
end Go.Proofs.YtchnaimpmegbkaaGreatDoor

/- The texts of a list: the program's. -/
namespace Go.Proofs.YtchnaimpmegbkaaGreatDoor
open Go.RowKit
set_option linter.unusedVariables false
set_option linter.unusedSimpArgs false
attribute [local go_sem] run_storeCells_key run_storeCells_new

end Go.Proofs.YtchnaimpmegbkaaGreatDoor
