/-
  Lemmas and contracts, joined: part 6.
-/
import Derived.Laws.ResultCell
import Derived.Test.YtinpiodfpnbllaaAuditListsB5
set_option linter.unusedSimpArgs false
set_option linter.unusedVariables false
set_option linter.unnecessarySimpa false
/- The reference's Split. -/
namespace Go.Proofs.Ytinpiodfpnbllaa
open Go.RowKit
set_option linter.unusedVariables false

set_option maxHeartbeats 1000000 in
theorem refSplit_any (n : Nat) (w : World) (h2 : 2 ≤ n) (hn : n ≤ 1000000) : Calls Try.prog 127 #[.int .i64 (n : Int)] w fun e w' => e = .returned (.int .i64 ((splitS n : Nat) : Int)) ∧ w = w' := by
  have hni : (n : Int) ≤ 1000000 := by omega
  have h2i : (2 : Int) ≤ (n : Int) := by omega
  go_enter Try.func127, Try.ntmps127
  go_wp2_with fail
  go_loop [3] (fun vk => ∃ (e k : Nat), k = 2 ^ e ∧ 1 ≤ k ∧ k < n ∧ vk = .int .i64 (k : Int)) (fun vk => n - (intOf vk).toNat)
  case atStart => exact ⟨0, 1, rfl, by omega, by omega, rfl⟩
  case round =>
    obtain ⟨e, k, hk, hk1, hkn, rfl⟩ := hrel
    have HK := Lib.hid hk
    clear hk
    by_cases hlt : 2 * k < n
    · have hki : 2 * (k : Int) < (n : Int) := by omega
      have hki2 : (k : Int) ≤ 1000000 := by omega
      go_wp2_with fail
      go_round
      case rel => exact ⟨e + 1, 2 * k, by rw [HK.out, Nat.pow_succ]; omega, by omega, by omega, by go_num⟩
      case measure => simp [intOf]; omega
    · have hki : (n : Int) ≤ 2 * (k : Int) := by omega
      have hki2 : (k : Int) ≤ 1000000 := by omega
      have HSP : splitS n = k := by have hk := HK.out; subst hk; exact splitS_of hkn (by omega)
      go_wp2_with fail
      go_ret
      exact ⟨by first | rfl | (rw [HSP]; rfl), rfl⟩
end Go.Proofs.Ytinpiodfpnbllaa

/- The reference's root of a list. -/
namespace Go.Proofs.Ytinpiodfpnbllaa
open Go.RowKit
set_option linter.unusedVariables false
attribute [local go_sem] run_storeCells_key run_storeCells_new

theorem KR.first {w : World} {A : Option Addr} {c : Nat} {k : List UInt8} (h : KR w A c [k]) : ∃ b off, A = some ⟨b, off, none⟩ ∧ b < w.heap.size ∧ w.rangeAt b off (cellsB k) := by
  obtain ⟨b, off, e, hb, hr⟩ := h.at_ (i := 0) (by simp)
  rw [Nat.zero_mul, Nat.add_zero] at hr
  exact ⟨b, off, e, hb, hr⟩

set_option maxHeartbeats 1000000 in
set_option maxRecDepth 100000 in
theorem refRootOf_zero (A : Option Addr) (c : Nat) (w : World) : Calls Try.prog 62 #[.slice A 0 c] w fun e w' => e = .returned (.agg (cellsB (rootS [])).toArray) ∧ Below w.heap.size w w' := by
  have HZ := Lib.hid zero16
  have b0 := alloc_bel w (.cells (cellsB zeroK).toArray 23)
  have B0 := Lib.hid (Blk.new w 23 (cellsB zeroK).toArray)
  have HD : Hid (∀ W, Calls Try.prog 125 #[.slice none 0 0] W fun e w' => e = .returned (.agg (cellsB (rootS [])).toArray) ∧ Below W.heap.size W w') := fun W => by rw [rootS_nil]; exact refDigest_any [] none 0 W rfl (BR.nil W) (by omega)
  have HDL : Hid ((rootS []).length = 16) := rootS_length _
  generalize rootS [] = d at HD HDL
  have hdc : (cellsB d).length = 16 := by rw [cellsB_length, HDL.out]
  have hall := all16 d
  go_enter Try.func62, Try.ntmps62
  go_wp2_with (go_at_call 125; rw [HZ.out]; refine (HD.out _).mono ?_; rintro e w1 ⟨rfl, hb1⟩; have b1 := bel_on b0 hb1; have Q1 := B0.out.below' hb1; have hr1 : (rowAt w1 w.heap.size).size = 16 := (by rw [Q1.row]; rfl); have hf1 := Q1.free; have HQ1 := Lib.hid Q1; clear Q1)
  exact bodyPost_ret (results_cell_row rfl _ _ w.heap.size _ _ (0, 0) _ rfl (HQ1.out.setRow (cellsB d).toArray) under_key rfl (cellsB_size _ HDL.out)) rfl ⟨rfl, below_setRow b1 (Nat.le_refl _) _⟩

set_option maxHeartbeats 1000000 in
set_option maxRecDepth 100000 in
theorem refRootOf_one (k : List UInt8) (A : Option Addr) (c : Nat) (w : World) (h : KR w A c [k]) : Calls Try.prog 62 #[.slice A 1 c] w fun e w' => e = .returned (.agg (cellsB (rootS [k])).toArray) ∧ Below w.heap.size w w' := by
  have hk : k.length = 16 := h.2 k (by simp)
  obtain ⟨b, off, rfl, hb, hr⟩ := h.first
  have HK := Lib.hid hk
  have HZ := Lib.hid zero16
  have b0 := alloc_bel w (.cells (cellsB zeroK).toArray 23)
  have B0 := Lib.hid (Blk.new w 23 (cellsB zeroK).toArray)
  have HR := Lib.hid (range_below hr b0)
  have HLT : Hid (∀ W, Calls Try.prog 126 #[.agg (cellsB k).toArray] W fun e w' => (∃ A c, e = .returned (.slice A 17 c) ∧ OB W.heap.size w' A c (leafT k)) ∧ Below W.heap.size W w') := fun W => refLeafText_any k W hk
  have HLL : Hid ((leafT k).length = 17) := by unfold Hid leafT; simp [hk]
  have HD : Hid (∀ W A c, BR W A c (leafT k) → Calls Try.prog 125 #[.slice A 17 c] W fun e w' => e = .returned (.agg (cellsB (rootS [k])).toArray) ∧ Below W.heap.size W w') := fun W A c h => by rw [rootS_one]; exact refDigest_any (leafT k) A c W HLL.out h (by omega)
  have HDL : Hid ((rootS [k]).length = 16) := rootS_length _
  generalize rootS [k] = d at HD HDL
  generalize leafT k = t at HLT HD HLL
  have hdc : (cellsB d).length = 16 := by rw [cellsB_length, HDL.out]
  have hall := all16 d
  clear hk hr h
  go_enter Try.func62, Try.ntmps62
  go_wp2_with (first
    | (rw [HZ.out]; refine wpList_load_mid rfl 23 (.tmp 12) rfl b off rfl (cellsB k) _ HR.out under_key rfl (key_info HK.out) ?_)
    | (go_at_call 126; refine (HLT.out _).mono ?_; rintro e w1 ⟨⟨A1, c1, rfl, ho1⟩, hb1⟩; have HO1 := Lib.hid (ho1.br (by rw [HLL.out]; omega)); have b1 := bel_on b0 hb1; clear ho1)
    | (go_at_call 125; refine (HD.out _ _ _ HO1.out).mono ?_; rintro e w2 ⟨rfl, hb2⟩; have b2 := bel_on b1 hb2; have Q2 := (B0.out.below' hb1).below' hb2; have hr2 : (rowAt w2 w.heap.size).size = 16 := (by rw [Q2.row]; rfl); have hf2 := Q2.free; have HQ2 := Lib.hid Q2; clear Q2))
  exact bodyPost_ret (results_cell_row rfl _ _ w.heap.size _ _ (0, 0) _ rfl (HQ2.out.setRow (cellsB d).toArray) under_key rfl (cellsB_size _ HDL.out)) rfl ⟨rfl, below_setRow b2 (Nat.le_refl _) _⟩

set_option maxHeartbeats 2000000 in
set_option maxRecDepth 100000 in
theorem refRootOf_any (n : Nat) : ∀ (ks : List (List UInt8)) (A : Option Addr) (c : Nat) (w : World), ks.length = n → n ≤ 1000 → KR w A c ks → Calls Try.prog 62 #[.slice A n c] w fun e w' => e = .returned (.agg (cellsB (rootS ks)).toArray) ∧ Below w.heap.size w w' := by
  induction n using Nat.strongRecOn with
  | _ n ih =>
    intro ks A c w hn hbig h
    rcases Nat.lt_or_ge n 2 with h2 | h2
    · rcases Nat.lt_or_ge n 1 with h1 | h1
      · obtain rfl : n = 0 := by omega
        obtain rfl : ks = [] := List.eq_nil_of_length_eq_zero hn
        exact refRootOf_zero A c w
      · obtain rfl : n = 1 := by omega
        obtain ⟨k, rfl⟩ := List.length_eq_one_iff.1 hn
        exact refRootOf_one k A c w h
    have hs1 := splitS_pos n
    have hs2 := splitS_lt h2
    have hcl : n ≤ c := by have := Rd.le h.1; omega
    have hni : (2 : Int) ≤ (n : Int) := by omega
    have hnb : (n : Int) ≤ 1000 := by omega
    have hne0 : ¬ (n : Int) = 0 := by omega
    have hne1 : ¬ (n : Int) = 1 := by omega
    have HSP : Hid (∀ W, Calls Try.prog 127 #[.int .i64 (n : Int)] W fun e w' => e = .returned (.int .i64 ((splitS n : Nat) : Int)) ∧ W = w') := fun W => refSplit_any n W h2 (by omega)
    have HNODE : Hid (rootS ks = digS (nodeT (rootS (ks.take (splitS n))) (rootS (ks.drop (splitS n))))) := by have := rootS_node (l := ks) (by omega); rw [hn] at this; exact this
    have HLO : Hid (∀ W, Below w.heap.size w W → Calls Try.prog 62 #[.slice A (splitS n) c] W fun e w' => e = .returned (.agg (cellsB (rootS (ks.take (splitS n)))).toArray) ∧ Below W.heap.size W w') := fun W hW => ih (splitS n) hs2 _ A c W (by rw [List.length_take]; omega) (by omega) ((h.below hW).take _ (by omega))
    have HHI : Hid (∀ W, Below w.heap.size w W → Calls Try.prog 62 #[.slice (dropK A (splitS n) c) (n - splitS n) (c - splitS n)] W fun e w' => e = .returned (.agg (cellsB (rootS (ks.drop (splitS n)))).toArray) ∧ Below W.heap.size W w') := fun W hW => ih (n - splitS n) (by omega) _ _ _ W (by rw [List.length_drop]; omega) (by omega) ((h.below hW).drop _ (by omega))
    have hL1 := rootS_length (ks.take (splitS n))
    have hL2 := rootS_length (ks.drop (splitS n))
    have hsl1 := fun W => slice_keys_to W A n c (splitS n) (by omega)
    have hsl2 := fun W => slice_keys_from W A n c (splitS n) (by omega)
    generalize splitS n = k at HSP HNODE HLO HHI hL1 hL2 hsl1 hsl2 hs1 hs2
    generalize rootS (ks.take k) = r1 at HNODE HLO hL1
    generalize rootS (ks.drop k) = r2 at HNODE HHI hL2
    have HNT : Hid (∀ W, Calls Try.prog 128 #[.agg (cellsB r1).toArray, .agg (cellsB r2).toArray] W fun e w' => (∃ A c, e = .returned (.slice A 33 c) ∧ OB W.heap.size w' A c (nodeT r1 r2)) ∧ Below W.heap.size W w') := fun W => refNodeText_any r1 r2 W hL1 hL2
    have HNL : Hid ((nodeT r1 r2).length = 33) := by unfold Hid nodeT; simp [hL1, hL2]
    have HD : Hid (∀ W A c, BR W A c (nodeT r1 r2) → Calls Try.prog 125 #[.slice A 33 c] W fun e w' => e = .returned (.agg (cellsB (digS (nodeT r1 r2))).toArray) ∧ Below W.heap.size W w') := fun W A c h => refDigest_any (nodeT r1 r2) A c W HNL.out h (by omega)
    have HDL : Hid ((digS (nodeT r1 r2)).length = 16) := digS_length _
    generalize digS (nodeT r1 r2) = d at HD HDL HNODE
    generalize nodeT r1 r2 = t at HNT HD HNL
    have HZ := Lib.hid zero16
    have b0 := alloc_bel w (.cells (cellsB zeroK).toArray 23)
    have B0 := Lib.hid (Blk.new w 23 (cellsB zeroK).toArray)
    clear ih h hn hbig hL1 hL2
    go_enter Try.func62, Try.ntmps62
    go_wp2_with (go_at_call 127; rw [HZ.out]; refine (HSP.out _).mono ?_; rintro e w1 ⟨rfl, rfl⟩)
    obtain ⟨W0, hW0⟩ : ∃ W : World, W = w.alloc (.cells (cellsB zeroK).toArray 23) := ⟨_, rfl⟩
    rw [← hW0] at b0 B0 ⊢
    clear hW0
    refine wp_region_noPanic ?_
    refine wp_region_held_drew (S := fun _ => True) (by kernel_rfl) trivial (fun hS => ?_)
    refine hd_take 0 (.slice A n c) rfl rfl (by kernel_rfl) (by kernel_rfl) (by kernel_rfl) (fun _ _ _ h => h) (fun w _ => by go_simp) hS ?_
    refine hd_take 1 (.int .i64 (k : Int)) rfl rfl (by kernel_rfl) (by kernel_rfl) (by kernel_rfl) (fun _ _ _ h => h) (fun w _ => by go_simp) hS ?_
    refine hd_take 4 (.slice A n c) rfl rfl (by kernel_rfl) (by kernel_rfl) (by kernel_rfl) (fun _ _ _ h => h) (fun w _ => by go_simp) hS ?_
    refine hd_take 5 (.int .i64 (k : Int)) rfl rfl (by kernel_rfl) (by kernel_rfl) (by kernel_rfl) (fun _ _ _ h => h) (fun w _ => by go_simp) hS ?_
    refine hd_take 2 (.slice A k c) rfl rfl (by kernel_rfl) (by kernel_rfl) (by kernel_rfl) (fun _ _ _ h => h) (fun w _ => by go_simp) hS ?_
    refine hd_take 6 (.slice (dropK A k c) (n - k) (c - k)) rfl rfl (by kernel_rfl) (by kernel_rfl) (by kernel_rfl) (fun _ _ _ h => h) (fun w _ => by go_simp) hS ?_
    simp only [List.getElem_toArray, List.getElem_cons_succ, List.getElem_cons_zero, Act.put, List.setIfInBounds_toArray, List.set_cons_zero, List.set_cons_succ]
    refine hd_calls 3 62 #[.slice A k c] rfl rfl (by kernel_rfl) (by go_simp) ((HLO.out _ b0.drew).mono ?_)
    rintro e w3 ⟨rfl, hb3⟩
    have b3 := bel_on b0.drew hb3
    refine ⟨_, rfl, trivial, ?_⟩
    refine hd_calls 7 62 #[.slice (dropK A k c) (n - k) (c - k)] rfl rfl (by kernel_rfl) (by go_simp) ((HHI.out _ b3).mono ?_)
    rintro e w4 ⟨rfl, hb4⟩
    have b4 := bel_on b3 hb4
    refine ⟨_, rfl, trivial, ?_⟩
    simp only [List.getElem_toArray, List.getElem_cons_succ, List.getElem_cons_zero, Act.put, List.setIfInBounds_toArray, List.set_cons_zero, List.set_cons_succ]
    refine hd_calls 8 128 #[.agg (cellsB r1).toArray, .agg (cellsB r2).toArray] rfl rfl (by kernel_rfl) (by go_simp) ((HNT.out _).mono ?_)
    rintro e w5 ⟨⟨A5, c5, rfl, ho5⟩, hb5⟩
    have b5 := bel_on b4 hb5
    refine ⟨_, rfl, trivial, ?_⟩
    refine hd_calls 9 125 #[.slice A5 33 c5] rfl rfl (by kernel_rfl) (by go_simp) ((HD.out _ _ _ (ho5.br (by rw [HNL.out]; omega))).mono ?_)
    rintro e w6 ⟨rfl, hb6⟩
    have b6 := bel_on b5 hb6
    refine ⟨_, rfl, trivial, ?_⟩
    simp only [List.getElem_toArray, List.getElem_cons_succ, List.getElem_cons_zero, Act.put, List.setIfInBounds_toArray, List.set_cons_zero, List.set_cons_succ]
    have Q6 := (((B0.out.drew.below' hb3).below' hb4).below' hb5).below' hb6
    refine hd_store 10 w.heap.size (cellsB d).toArray _ _ _ rfl rfl rfl (by kernel_rfl) rfl rfl Q6 (cellsB_size _ HDL.out) (by rw [List.size_toArray, List.size_toArray, cellsB_length, cellsB_length, HDL.out]; rfl) (all_oneCell_toArray (cells_one d)) trivial ?_
    refine wpAnyH_done (by kernel_rfl) (NoPanic.normal ?_) _
    simp only [List.getElem_toArray, List.getElem_cons_succ, List.getElem_cons_zero, Act.put, List.setIfInBounds_toArray, List.set_cons_zero, List.set_cons_succ]
    go_wp2_with fail
    exact bodyPost_ret (results_cell_row rfl _ _ w.heap.size _ _ (0, 0) _ rfl (Q6.setRow (cellsB d).toArray) under_key rfl (cellsB_size _ HDL.out)) rfl ⟨by rw [HNODE.out], below_setRow b6 (Nat.le_refl _) _⟩
end Go.Proofs.Ytinpiodfpnbllaa

/- The program's root of a list. -/
namespace Go.Proofs.Ytinpiodfpnbllaa
open Go.RowKit
set_option linter.unusedVariables false
attribute [local go_sem] run_storeCells_key run_storeCells_new

set_option maxHeartbeats 1000000 in
set_option maxRecDepth 100000 in
theorem rootFold_one (k : List UInt8) (A : Option Addr) (c : Nat) (w : World) (h : KR w A c [k]) : Calls Try.prog 63 #[.slice A 1 c, .func (.func 123) #[] #[], .func (.func 124) #[] #[]] w fun e w' => e = .returned (.agg (cellsB (rootS [k])).toArray) ∧ Below w.heap.size w w' := by
  have hk : k.length = 16 := h.2 k (by simp)
  obtain ⟨b, off, rfl, hb, hr⟩ := h.first
  have HK := Lib.hid hk
  have HZ := Lib.hid zero16
  have b0 := alloc_bel w (.cells (cellsB zeroK).toArray 23)
  have B0 := Lib.hid (Blk.new w 23 (cellsB zeroK).toArray)
  have HR := Lib.hid (range_below hr b0)
  have HD : Hid (∀ W, Calls Try.prog 123 #[.agg (cellsB k).toArray] W fun e w' => e = .returned (.agg (cellsB (rootS [k])).toArray) ∧ Below W.heap.size W w') := fun W => by rw [rootS_one]; exact leafHash_any k W hk
  have HDL : Hid ((rootS [k]).length = 16) := rootS_length _
  generalize rootS [k] = d at HD HDL
  have hdc : (cellsB d).length = 16 := by rw [cellsB_length, HDL.out]
  have hall := all16 d
  clear hk hr h
  go_enter Try.func63, Try.ntmps63
  go_wp2_with (first
    | (rw [HZ.out]; refine wpList_load_mid rfl 23 (.tmp 13) rfl b off rfl (cellsB k) _ HR.out under_key rfl (key_info HK.out) ?_)
    | (go_at_call 123; refine (HD.out _).mono ?_; rintro e w2 ⟨rfl, hb2⟩; have b2 := bel_on b0 hb2; have Q2 := B0.out.below' hb2; have hr2 : (rowAt w2 w.heap.size).size = 16 := (by rw [Q2.row]; rfl); have hf2 := Q2.free; have HQ2 := Lib.hid Q2; clear Q2))
  exact bodyPost_ret (results_cell_row rfl _ _ w.heap.size _ _ (0, 0) _ rfl (HQ2.out.setRow (cellsB d).toArray) under_key rfl (cellsB_size _ HDL.out)) rfl ⟨rfl, below_setRow b2 (Nat.le_refl _) _⟩

set_option maxHeartbeats 2000000 in
set_option maxRecDepth 100000 in
theorem rootFold_any (n : Nat) : ∀ (ks : List (List UInt8)) (A : Option Addr) (c : Nat) (w : World), ks.length = n → 1 ≤ n → n ≤ 1000 → KR w A c ks → Calls Try.prog 63 #[.slice A n c, .func (.func 123) #[] #[], .func (.func 124) #[] #[]] w fun e w' => e = .returned (.agg (cellsB (rootS ks)).toArray) ∧ Below w.heap.size w w' := by
  induction n using Nat.strongRecOn with
  | _ n ih =>
    intro ks A c w hn h1n hbig h
    rcases Nat.lt_or_ge n 2 with h2 | h2
    · obtain rfl : n = 1 := by omega
      obtain ⟨k, rfl⟩ := List.length_eq_one_iff.1 hn
      exact rootFold_one k A c w h
    have hs1 := splitS_pos n
    have hs2 := splitS_lt h2
    have hcl : n ≤ c := by have := Rd.le h.1; omega
    have hni : (2 : Int) ≤ (n : Int) := by omega
    have hnb : (n : Int) ≤ 1000 := by omega
    have hne0 : ¬ (n : Int) = 0 := by omega
    have hne1 : ¬ (n : Int) = 1 := by omega
    have HSP : Hid (∀ W, Calls Try.prog 72 #[.int .i64 (n : Int)] W fun e w' => e = .returned (.int .i64 ((splitS n : Nat) : Int)) ∧ W = w') := fun W => split_any n W h2 hbig
    have HNODE : Hid (rootS ks = digS (nodeT (rootS (ks.take (splitS n))) (rootS (ks.drop (splitS n))))) := by have := rootS_node (l := ks) (by omega); rw [hn] at this; exact this
    have HLO : Hid (∀ W, Below w.heap.size w W → Calls Try.prog 63 #[.slice A (splitS n) c, .func (.func 123) #[] #[], .func (.func 124) #[] #[]] W fun e w' => e = .returned (.agg (cellsB (rootS (ks.take (splitS n)))).toArray) ∧ Below W.heap.size W w') := fun W hW => ih (splitS n) hs2 _ A c W (by rw [List.length_take]; omega) (by omega) (by omega) ((h.below hW).take _ (by omega))
    have HHI : Hid (∀ W, Below w.heap.size w W → Calls Try.prog 63 #[.slice (dropK A (splitS n) c) (n - splitS n) (c - splitS n), .func (.func 123) #[] #[], .func (.func 124) #[] #[]] W fun e w' => e = .returned (.agg (cellsB (rootS (ks.drop (splitS n)))).toArray) ∧ Below W.heap.size W w') := fun W hW => ih (n - splitS n) (by omega) _ _ _ W (by rw [List.length_drop]; omega) (by omega) (by omega) ((h.below hW).drop _ (by omega))
    have hL1 := rootS_length (ks.take (splitS n))
    have hL2 := rootS_length (ks.drop (splitS n))
    have hsl1 := fun W => slice_keys_to W A n c (splitS n) (by omega)
    have hsl2 := fun W => slice_keys_from W A n c (splitS n) (by omega)
    generalize splitS n = k at HSP HNODE HLO HHI hL1 hL2 hsl1 hsl2 hs1 hs2
    generalize rootS (ks.take k) = r1 at HNODE HLO hL1
    generalize rootS (ks.drop k) = r2 at HNODE HHI hL2
    have HD : Hid (∀ W, Calls Try.prog 124 #[.agg (cellsB r1).toArray, .agg (cellsB r2).toArray] W fun e w' => e = .returned (.agg (cellsB (digS (nodeT r1 r2))).toArray) ∧ Below W.heap.size W w') := fun W => nodeHash_any r1 r2 W hL1 hL2
    have HDL : Hid ((digS (nodeT r1 r2)).length = 16) := digS_length _
    generalize digS (nodeT r1 r2) = d at HD HDL HNODE
    have HZ := Lib.hid zero16
    have b0 := alloc_bel w (.cells (cellsB zeroK).toArray 23)
    have B0 := Lib.hid (Blk.new w 23 (cellsB zeroK).toArray)
    clear ih h hn hbig hL1 hL2
    go_enter Try.func63, Try.ntmps63
    go_wp2_with (go_at_call 72; rw [HZ.out]; refine (HSP.out _).mono ?_; rintro e w1 ⟨rfl, rfl⟩)
    obtain ⟨W0, hW0⟩ : ∃ W : World, W = w.alloc (.cells (cellsB zeroK).toArray 23) := ⟨_, rfl⟩
    rw [← hW0] at b0 B0 ⊢
    clear hW0
    refine wp_region_noPanic ?_
    refine wp_region_held_drew (S := fun _ => True) (by kernel_rfl) trivial (fun hS => ?_)
    refine hd_take 0 (.func (.func 124) #[] #[]) rfl rfl (by kernel_rfl) (by kernel_rfl) (by kernel_rfl) (fun _ _ _ h => h) (fun w _ => by go_simp) hS ?_
    refine hd_take 1 (.slice A n c) rfl rfl (by kernel_rfl) (by kernel_rfl) (by kernel_rfl) (fun _ _ _ h => h) (fun w _ => by go_simp) hS ?_
    refine hd_take 2 (.int .i64 (k : Int)) rfl rfl (by kernel_rfl) (by kernel_rfl) (by kernel_rfl) (fun _ _ _ h => h) (fun w _ => by go_simp) hS ?_
    refine hd_take 4 (.func (.func 123) #[] #[]) rfl rfl (by kernel_rfl) (by kernel_rfl) (by kernel_rfl) (fun _ _ _ h => h) (fun w _ => by go_simp) hS ?_
    refine hd_take 5 (.func (.func 124) #[] #[]) rfl rfl (by kernel_rfl) (by kernel_rfl) (by kernel_rfl) (fun _ _ _ h => h) (fun w _ => by go_simp) hS ?_
    refine hd_take 7 (.slice A n c) rfl rfl (by kernel_rfl) (by kernel_rfl) (by kernel_rfl) (fun _ _ _ h => h) (fun w _ => by go_simp) hS ?_
    refine hd_take 8 (.int .i64 (k : Int)) rfl rfl (by kernel_rfl) (by kernel_rfl) (by kernel_rfl) (fun _ _ _ h => h) (fun w _ => by go_simp) hS ?_
    refine hd_take 10 (.func (.func 123) #[] #[]) rfl rfl (by kernel_rfl) (by kernel_rfl) (by kernel_rfl) (fun _ _ _ h => h) (fun w _ => by go_simp) hS ?_
    refine hd_take 11 (.func (.func 124) #[] #[]) rfl rfl (by kernel_rfl) (by kernel_rfl) (by kernel_rfl) (fun _ _ _ h => h) (fun w _ => by go_simp) hS ?_
    simp only [List.getElem_toArray, List.getElem_cons_succ, List.getElem_cons_zero, Act.put, List.setIfInBounds_toArray, List.set_cons_zero, List.set_cons_succ]
    refine hd_take 3 (.slice A k c) rfl rfl (by kernel_rfl) (by kernel_rfl) (by kernel_rfl) (fun _ _ _ h => h) (fun w _ => by go_simp) hS ?_
    refine hd_take 9 (.slice (dropK A k c) (n - k) (c - k)) rfl rfl (by kernel_rfl) (by kernel_rfl) (by kernel_rfl) (fun _ _ _ h => h) (fun w _ => by go_simp) hS ?_
    simp only [List.getElem_toArray, List.getElem_cons_succ, List.getElem_cons_zero, Act.put, List.setIfInBounds_toArray, List.set_cons_zero, List.set_cons_succ]
    refine hd_calls 6 63 #[.slice A k c, .func (.func 123) #[] #[], .func (.func 124) #[] #[]] rfl rfl (by kernel_rfl) (by go_simp) ((HLO.out _ b0.drew).mono ?_)
    rintro e w3 ⟨rfl, hb3⟩
    have b3 := bel_on b0.drew hb3
    refine ⟨_, rfl, trivial, ?_⟩
    refine hd_calls 12 63 #[.slice (dropK A k c) (n - k) (c - k), .func (.func 123) #[] #[], .func (.func 124) #[] #[]] rfl rfl (by kernel_rfl) (by go_simp) ((HHI.out _ b3).mono ?_)
    rintro e w4 ⟨rfl, hb4⟩
    have b4 := bel_on b3 hb4
    refine ⟨_, rfl, trivial, ?_⟩
    simp only [List.getElem_toArray, List.getElem_cons_succ, List.getElem_cons_zero, Act.put, List.setIfInBounds_toArray, List.set_cons_zero, List.set_cons_succ]
    refine hd_calls 13 124 #[.agg (cellsB r1).toArray, .agg (cellsB r2).toArray] rfl rfl (by kernel_rfl) (by go_simp) ((HD.out _).mono ?_)
    rintro e w6 ⟨rfl, hb6⟩
    have b6 := bel_on b4 hb6
    refine ⟨_, rfl, trivial, ?_⟩
    simp only [List.getElem_toArray, List.getElem_cons_succ, List.getElem_cons_zero, Act.put, List.setIfInBounds_toArray, List.set_cons_zero, List.set_cons_succ]
    have Q6 := ((B0.out.drew.below' hb3).below' hb4).below' hb6
    refine hd_store 14 w.heap.size (cellsB d).toArray _ _ _ rfl rfl rfl (by kernel_rfl) rfl rfl Q6 (cellsB_size _ HDL.out) (by rw [List.size_toArray, List.size_toArray, cellsB_length, cellsB_length, HDL.out]; rfl) (all_oneCell_toArray (cells_one d)) trivial ?_
    refine wpAnyH_done (by kernel_rfl) (NoPanic.normal ?_) _
    simp only [List.getElem_toArray, List.getElem_cons_succ, List.getElem_cons_zero, Act.put, List.setIfInBounds_toArray, List.set_cons_zero, List.set_cons_succ]
    go_wp2_with fail
    exact bodyPost_ret (results_cell_row rfl _ _ w.heap.size _ _ (0, 0) _ rfl (Q6.setRow (cellsB d).toArray) under_key rfl (cellsB_size _ HDL.out)) rfl ⟨by rw [HNODE.out], below_setRow b6 (Nat.le_refl _) _⟩
end Go.Proofs.Ytinpiodfpnbllaa

/- Root: the program's and the reference's. -/
namespace Go.Proofs.Ytinpiodfpnbllaa
open Go.RowKit
set_option linter.unusedVariables false
attribute [local go_sem] run_storeCells_key run_storeCells_new

/-- A root, or the error. -/
def rtS (ks : List (List UInt8)) : List UInt8 × Int := if 128 < ks.length then (zeroK, 4) else (rootS ks, 0)
theorem rtS_length (ks : List (List UInt8)) : (rtS ks).1.length = 16 := by
  unfold rtS
  split
  · rfl
  · exact rootS_length ks

set_option maxHeartbeats 1000000 in
set_option maxRecDepth 100000 in
theorem root_any (ks : List (List UInt8)) (A : Option Addr) (c : Nat) (w : World) {n : Nat} (hn : ks.length = n) (hb : n ≤ 1000) (h : KR w A c ks) : Calls Try.prog 61 #[.slice A n c] w fun e w' => e = .returned (.agg (cellsB (rootS ks)).toArray) ∧ Below w.heap.size w w' := by
  have HZ := Lib.hid zero16
  have b0 := alloc_bel w (.cells (cellsB zeroK).toArray 23)
  have B0 := Lib.hid (Blk.new w 23 (cellsB zeroK).toArray)
  have HDL : Hid ((rootS ks).length = 16) := rootS_length _
  have hni : (n : Int) ≤ 1000 := by omega
  by_cases h0 : n = 0
  · subst h0
    obtain rfl : ks = [] := List.eq_nil_of_length_eq_zero hn
    have HD : Hid (∀ W, Calls Try.prog 122 #[.slice none 0 0] W fun e w' => e = .returned (.agg (cellsB (rootS [])).toArray) ∧ Below W.heap.size W w') := fun W => by rw [rootS_nil]; exact digest_any [] none 0 W rfl (BR.nil W) (by omega)
    generalize rootS [] = d at HD HDL
    have hdc : (cellsB d).length = 16 := by rw [cellsB_length, HDL.out]
    have hall := all16 d
    clear hn hb h
    go_enter Try.func61, Try.ntmps61
    go_wp2_with (go_at_call 122; rw [HZ.out]; refine (HD.out _).mono ?_; rintro e w1 ⟨rfl, hb1⟩; have b1 := bel_on b0 hb1; have Q1 := B0.out.below' hb1; have hr1 : (rowAt w1 w.heap.size).size = 16 := (by rw [Q1.row]; rfl); have hf1 := Q1.free; have HQ1 := Lib.hid Q1; clear Q1)
    exact bodyPost_ret (results_cell_row rfl _ _ w.heap.size _ _ (0, 0) _ rfl (HQ1.out.setRow (cellsB d).toArray) under_key rfl (cellsB_size _ HDL.out)) rfl ⟨rfl, below_setRow b1 (Nat.le_refl _) _⟩
  · have hn0 : ¬ (n : Int) = 0 := by omega
    have HD : Hid (∀ W, Below w.heap.size w W → Calls Try.prog 63 #[.slice A n c, .func (.func 123) #[] #[], .func (.func 124) #[] #[]] W fun e w' => e = .returned (.agg (cellsB (rootS ks)).toArray) ∧ Below W.heap.size W w') := fun W hW => rootFold_any n ks A c W hn (by omega) hb (h.below hW)
    generalize rootS ks = d at HD HDL
    have hdc : (cellsB d).length = 16 := by rw [cellsB_length, HDL.out]
    have hall := all16 d
    clear hn hb h h0
    go_enter Try.func61, Try.ntmps61
    go_wp2_with (go_at_call 63; rw [HZ.out]; refine (HD.out _ b0).mono ?_; rintro e w1 ⟨rfl, hb1⟩; have b1 := bel_on b0 hb1; have Q1 := B0.out.below' hb1; have hr1 : (rowAt w1 w.heap.size).size = 16 := (by rw [Q1.row]; rfl); have hf1 := Q1.free; have HQ1 := Lib.hid Q1; clear Q1)
    exact bodyPost_ret (results_cell_row rfl _ _ w.heap.size _ _ (0, 0) _ rfl (HQ1.out.setRow (cellsB d).toArray) under_key rfl (cellsB_size _ HDL.out)) rfl ⟨rfl, below_setRow b1 (Nat.le_refl _) _⟩

set_option maxHeartbeats 1000000 in
set_option maxRecDepth 100000 in
theorem Root_any (ks : List (List UInt8)) (A : Option Addr) (c : Nat) (w : World) {n : Nat} (hn : ks.length = n) (h : KR w A c ks) : Calls Try.prog 15 #[.slice A n c] w fun e w' => e = .returned (.tuple #[.agg (cellsB (rtS ks).1).toArray, .int .i64 (rtS ks).2]) ∧ Below w.heap.size w w' := by
  have HZ := Lib.hid zero16
  have hnl : (n : Int) ≤ 140737488351232 := by have := h.len; omega
  have b0 := alloc_bel w (.cells (cellsB zeroK).toArray 23)
  have B0 := Lib.hid (Blk.new w 23 (cellsB zeroK).toArray)
  have HDL : Hid ((rootS ks).length = 16) := rootS_length _
  by_cases hbig : 128 < n
  · have HS : Hid (rtS ks = (zeroK, 4)) := by unfold Hid rtS; rw [if_pos (by omega)]
    have hbi : (128 : Int) < n := by omega
    have hdc : (cellsB zeroK).length = 16 := rfl
    have hall := all16 zeroK
    have hr1 : (rowAt (w.alloc (.cells (cellsB zeroK).toArray 23)) w.heap.size).size = 16 := by rw [B0.out.row]; rfl
    have hf1 := B0.out.free
    clear hn h hbig
    go_enter Try.func15, Try.ntmps15
    go_wp2_with (rw [HZ.out]; refine wpList_buildTo rfl 23 #[] rfl (some 7) rfl (cellsB zeroK).toArray (by kernel_rfl) ?_)
    refine bodyPost_ret (v := .tuple #[.agg (cellsB zeroK).toArray, .int .i64 4]) ?_ rfl ⟨by rw [HS.out], below_setRow b0 (Nat.le_refl _) _⟩
    rw [results_cell_tmp Try.results15]
    simp [asAddr, Result.andThen, run_loadVar_row _ w.heap.size _ _ _ (0, 0) _ (B0.out.setRow (cellsB zeroK).toArray) under_key rfl (cellsB_size _ rfl)]
  · have HS : Hid (rtS ks = (rootS ks, 0)) := by unfold Hid rtS; rw [if_neg (by omega)]
    have hbi : (n : Int) ≤ 128 := by omega
    have HD : Hid (∀ W, Below w.heap.size w W → Calls Try.prog 61 #[.slice A n c] W fun e w' => e = .returned (.agg (cellsB (rootS ks)).toArray) ∧ Below W.heap.size W w') := fun W hW => root_any ks A c W hn (by omega) (h.below hW)
    generalize rootS ks = d at HD HDL HS
    have hdc : (cellsB d).length = 16 := by rw [cellsB_length, HDL.out]
    have hall := all16 d
    clear hn h hbig
    go_enter Try.func15, Try.ntmps15
    go_wp2_with (go_at_call 61; rw [HZ.out]; refine (HD.out _ b0).mono ?_; rintro e w1 ⟨rfl, hb1⟩; have b1 := bel_on b0 hb1; have Q1 := B0.out.below' hb1; have hr1 : (rowAt w1 w.heap.size).size = 16 := (by rw [Q1.row]; rfl); have hf1 := Q1.free; have HQ1 := Lib.hid Q1; clear Q1)
    refine bodyPost_ret (v := .tuple #[.agg (cellsB d).toArray, .int .i64 0]) ?_ rfl ⟨by rw [HS.out], below_setRow b1 (Nat.le_refl _) _⟩
    rw [results_cell_tmp Try.results15]
    simp [asAddr, Result.andThen, run_loadVar_row _ w.heap.size _ _ _ (0, 0) _ (HQ1.out.setRow (cellsB d).toArray) under_key rfl (cellsB_size _ HDL.out)]

set_option maxHeartbeats 1000000 in
set_option maxRecDepth 100000 in
theorem refRoot_any (ks : List (List UInt8)) (A : Option Addr) (c : Nat) (w : World) {n : Nat} (hn : ks.length = n) (h : KR w A c ks) : Calls Try.prog 16 #[.slice A n c] w fun e w' => e = .returned (.tuple #[.agg (cellsB (rtS ks).1).toArray, .int .i64 (rtS ks).2]) ∧ Below w.heap.size w w' := by
  have HZ := Lib.hid zero16
  have hnl : (n : Int) ≤ 140737488351232 := by have := h.len; omega
  have b0 := alloc_bel w (.cells (cellsB zeroK).toArray 23)
  have B0 := Lib.hid (Blk.new w 23 (cellsB zeroK).toArray)
  have HDL : Hid ((rootS ks).length = 16) := rootS_length _
  by_cases hbig : 128 < n
  · have HS : Hid (rtS ks = (zeroK, 4)) := by unfold Hid rtS; rw [if_pos (by omega)]
    have hbi : (128 : Int) < n := by omega
    have hdc : (cellsB zeroK).length = 16 := rfl
    have hall := all16 zeroK
    have hr1 : (rowAt (w.alloc (.cells (cellsB zeroK).toArray 23)) w.heap.size).size = 16 := by rw [B0.out.row]; rfl
    have hf1 := B0.out.free
    clear hn h hbig
    go_enter Try.func16, Try.ntmps16
    go_wp2_with (rw [HZ.out]; refine wpList_buildTo rfl 23 #[] rfl (some 7) rfl (cellsB zeroK).toArray (by kernel_rfl) ?_)
    refine bodyPost_ret (v := .tuple #[.agg (cellsB zeroK).toArray, .int .i64 4]) ?_ rfl ⟨by rw [HS.out], below_setRow b0 (Nat.le_refl _) _⟩
    rw [results_cell_tmp Try.results16]
    simp [asAddr, Result.andThen, run_loadVar_row _ w.heap.size _ _ _ (0, 0) _ (B0.out.setRow (cellsB zeroK).toArray) under_key rfl (cellsB_size _ rfl)]
  · have HS : Hid (rtS ks = (rootS ks, 0)) := by unfold Hid rtS; rw [if_neg (by omega)]
    have hbi : (n : Int) ≤ 128 := by omega
    have HD : Hid (∀ W, Below w.heap.size w W → Calls Try.prog 62 #[.slice A n c] W fun e w' => e = .returned (.agg (cellsB (rootS ks)).toArray) ∧ Below W.heap.size W w') := fun W hW => refRootOf_any n ks A c W hn (by omega) (h.below hW)
    generalize rootS ks = d at HD HDL HS
    have hdc : (cellsB d).length = 16 := by rw [cellsB_length, HDL.out]
    have hall := all16 d
    clear hn h hbig
    go_enter Try.func16, Try.ntmps16
    go_wp2_with (go_at_call 62; rw [HZ.out]; refine (HD.out _ b0).mono ?_; rintro e w1 ⟨rfl, hb1⟩; have b1 := bel_on b0 hb1; have Q1 := B0.out.below' hb1; have hr1 : (rowAt w1 w.heap.size).size = 16 := (by rw [Q1.row]; rfl); have hf1 := Q1.free; have HQ1 := Lib.hid Q1; clear Q1)
    refine bodyPost_ret (v := .tuple #[.agg (cellsB d).toArray, .int .i64 0]) ?_ rfl ⟨by rw [HS.out], below_setRow b1 (Nat.le_refl _) _⟩
    rw [results_cell_tmp Try.results16]
    simp [asAddr, Result.andThen, run_loadVar_row _ w.heap.size _ _ _ (0, 0) _ (HQ1.out.setRow (cellsB d).toArray) under_key rfl (cellsB_size _ HDL.out)]
end Go.Proofs.Ytinpiodfpnbllaa

/- The reference's path. -/
namespace Go.Proofs.Ytinpiodfpnbllaa
open Go.RowKit
set_option linter.unusedVariables false

theorem pathS_le : ∀ (l : List (List UInt8)) (i : Nat), (pathS l i).length ≤ l.length := by
  suffices h : ∀ n (l : List (List UInt8)) i, l.length = n → (pathS l i).length ≤ l.length from fun l i => h _ l i rfl
  intro n
  induction n using Nat.strongRecOn with
  | _ n ih =>
    intro l i hn
    rcases Nat.lt_or_ge l.length 2 with h | h
    · rw [pathS_one (by omega)]; exact Nat.zero_le _
    · have h1 := splitS_lt h
      have h2 := splitS_pos l.length
      by_cases hi : i < splitS l.length
      · rw [pathS_low h hi, List.length_append]
        have := ih (splitS l.length) (by omega) (l.take (splitS l.length)) i (by rw [List.length_take]; omega)
        rw [List.length_take] at this
        simp only [List.length_cons, List.length_nil]
        omega
      · rw [pathS_high h hi, List.length_append]
        have := ih (l.length - splitS l.length) (by omega) (l.drop (splitS l.length)) (i - splitS l.length) (by rw [List.length_drop])
        rw [List.length_drop] at this
        simp only [List.length_cons, List.length_nil]
        omega

set_option maxHeartbeats 2000000 in
set_option maxRecDepth 100000 in
theorem refPath_low {n : Nat} (ih : ∀ m, m < n → ∀ (ks : List (List UInt8)) (i : Nat) (A : Option Addr) (c : Nat) (w : World), ks.length = m → i < m → KR w A c ks → Calls Try.prog 131 #[.slice A m c, .int .i64 (i : Int)] w fun e w' => (∃ A' c', e = .returned (.slice A' (pathS ks i).length c') ∧ OK16 w.heap.size w' A' c' (pathS ks i)) ∧ Below w.heap.size w w')
    (ks : List (List UInt8)) (i : Nat) (A : Option Addr) (c : Nat) (w : World) (hn : ks.length = n) (hi : i < n) (hbig : n ≤ 1000) (h : KR w A c ks) (h2 : 2 ≤ n) (hk : i < splitS n) :
    Calls Try.prog 131 #[.slice A n c, .int .i64 (i : Int)] w fun e w' => (∃ A' c', e = .returned (.slice A' (pathS ks i).length c') ∧ OK16 w.heap.size w' A' c' (pathS ks i)) ∧ Below w.heap.size w w' := by
    have hs1 := splitS_pos n
    have hs2 := splitS_lt h2
    have hcl : n ≤ c := by have := Rd.le h.1; omega
    have hni : (2 : Int) ≤ (n : Int) := by omega
    have hnb : (n : Int) ≤ 1000 := by omega
    have hne1 : ¬ (n : Int) = 1 := by omega
    have hii : (i : Int) < (n : Int) := by omega
    have b0 : Below w.heap.size w w := Below.refl _ _
    have HSP : Hid (∀ W, Calls Try.prog 127 #[.int .i64 (n : Int)] W fun e w' => e = .returned (.int .i64 ((splitS n : Nat) : Int)) ∧ W = w') := fun W => refSplit_any n W h2 (by omega)
    have hsl1 := fun W => slice_keys_to W A n c (splitS n) (by omega)
    have hsl2 := fun W => slice_keys_from W A n c (splitS n) (by omega)
    have HPP : Hid (pathS ks i = pathS (ks.take (splitS n)) i ++ [rootS (ks.drop (splitS n))]) := by have := pathS_low (l := ks) (i := i) (by omega) (by rw [hn]; exact hk); rw [hn] at this; exact this
    have HPA : Hid (∀ W, Below w.heap.size w W → Calls Try.prog 131 #[.slice A (splitS n) c, .int .i64 (i : Int)] W fun e w' => (∃ A' c', e = .returned (.slice A' (pathS (ks.take (splitS n)) i).length c') ∧ OK16 W.heap.size w' A' c' (pathS (ks.take (splitS n)) i)) ∧ Below W.heap.size W w') := fun W hW => ih (splitS n) hs2 _ i A c W (by rw [List.length_take]; omega) hk ((h.below hW).take _ (by omega))
    have HRO : Hid (∀ W, Below w.heap.size w W → Calls Try.prog 62 #[.slice (dropK A (splitS n) c) (n - splitS n) (c - splitS n)] W fun e w' => e = .returned (.agg (cellsB (rootS (ks.drop (splitS n)))).toArray) ∧ Below W.heap.size W w') := fun W hW => refRootOf_any (n - splitS n) _ _ _ W (by rw [List.length_drop]; omega) (by omega) ((h.below hW).drop _ (by omega))
    have HRL : Hid ((rootS (ks.drop (splitS n))).length = 16) := rootS_length _
    have hpl : (pathS (ks.take (splitS n)) i).length ≤ n := by have := pathS_le (ks.take (splitS n)) i; rw [List.length_take] at this; omega
    have hki : (i : Int) < ((splitS n : Nat) : Int) := by omega
    generalize rootS (ks.drop (splitS n)) = r at HPP HRO HRL
    generalize pathS (ks.take (splitS n)) i = ps at HPP HPA hpl
    obtain ⟨m, hm⟩ : ∃ m, ps.length = m := ⟨_, rfl⟩
    rw [hm] at HPA hpl
    have HPS := Lib.hid hm
    have HPL : Hid ((pathS ks i).length = m + 1) := by unfold Hid; rw [HPP.out, List.length_append, hm]; rfl
    generalize splitS n = k at *
    clear ih h hn hbig hm hk
    go_enter Try.func131, Try.ntmps131
    go_wp2_with (go_at_call 127; refine (HSP.out _).mono ?_; rintro e w1 ⟨rfl, rfl⟩)
    refine wp_region_noPanic ?_
    refine wp_region_held_drew (S := fun _ => True) (by kernel_rfl) trivial (fun hS => ?_)
    refine hd_take 0 (.slice A n c) rfl rfl (by kernel_rfl) (by kernel_rfl) (by kernel_rfl) (fun _ _ _ h => h) (fun w _ => by go_simp) hS ?_
    refine hd_take 1 (.int .i64 (k : Int)) rfl rfl (by kernel_rfl) (by kernel_rfl) (by kernel_rfl) (fun _ _ _ h => h) (fun w _ => by go_simp) hS ?_
    refine hd_take 3 (.int .i64 (i : Int)) rfl rfl (by kernel_rfl) (by kernel_rfl) (by kernel_rfl) (fun _ _ _ h => h) (fun w _ => by go_simp) hS ?_
    refine hd_take 5 (.slice A n c) rfl rfl (by kernel_rfl) (by kernel_rfl) (by kernel_rfl) (fun _ _ _ h => h) (fun w _ => by go_simp) hS ?_
    refine hd_take 6 (.int .i64 (k : Int)) rfl rfl (by kernel_rfl) (by kernel_rfl) (by kernel_rfl) (fun _ _ _ h => h) (fun w _ => by go_simp) hS ?_
    simp only [List.getElem_toArray, List.getElem_cons_succ, List.getElem_cons_zero, Act.put, List.setIfInBounds_toArray, List.set_cons_zero, List.set_cons_succ]
    refine hd_take 2 (.slice A k c) rfl rfl (by kernel_rfl) (by kernel_rfl) (by kernel_rfl) (fun _ _ _ h => h) (fun w _ => by go_simp) hS ?_
    refine hd_take 7 (.slice (dropK A k c) (n - k) (c - k)) rfl rfl (by kernel_rfl) (by kernel_rfl) (by kernel_rfl) (fun _ _ _ h => h) (fun w _ => by go_simp) hS ?_
    simp only [List.getElem_toArray, List.getElem_cons_succ, List.getElem_cons_zero, Act.put, List.setIfInBounds_toArray, List.set_cons_zero, List.set_cons_succ]
    refine hd_calls 4 131 #[.slice A k c, .int .i64 (i : Int)] rfl rfl (by kernel_rfl) (by go_simp) ((HPA.out _ b0.drew).mono ?_)
    rintro e w3 ⟨⟨A3, c3, rfl, ho3⟩, hb3⟩
    have b3 := bel_on b0.drew hb3
    refine ⟨_, rfl, trivial, ?_⟩
    refine hd_calls 8 62 #[.slice (dropK A k c) (n - k) (c - k)] rfl rfl (by kernel_rfl) (by go_simp) ((HRO.out _ b3).mono ?_)
    rintro e w4 ⟨rfl, hb4⟩
    have b4 := bel_on b3 hb4
    have ho4 := ho3.below hb4
    refine ⟨_, rfl, trivial, ?_⟩
    simp only [List.getElem_toArray, List.getElem_cons_succ, List.getElem_cons_zero, Act.put, List.setIfInBounds_toArray, List.set_cons_zero, List.set_cons_succ]
    have ho5 := ho4.below (alloc_bel w4 (.cells (cellsB r).toArray 23))
    have b5 := b4.alloc b4.size (.cells (cellsB r).toArray 23)
    have hsrc := src_key w4 HRL.out
    have hz5 : w.drew.heap.size ≤ (w4.alloc (.cells (cellsB r).toArray 23)).heap.size := b5.size
    refine hd_sole 9 (by kernel_rfl) (op_buildKey r _ HRL.out rfl rfl rfl rfl ⟨trivial, ?_⟩)
    simp only [List.getElem_toArray, List.getElem_cons_succ, List.getElem_cons_zero, Act.put, List.setIfInBounds_toArray, List.set_cons_zero, List.set_cons_succ]
    refine hd_appendK 10 (.tmp 19) (.tmp 24) rfl rfl rfl (by kernel_rfl) w.drew.heap.size A3 m c3 ps HPS.out rfl ho5 _ 1 1 [r] rfl rfl hsrc (by omega) hz5 ?_
    intro A6 c6 w6 ho6 hb6
    refine ⟨trivial, ?_⟩
    simp only [List.getElem_toArray, List.getElem_cons_succ, List.getElem_cons_zero, Act.put, List.setIfInBounds_toArray, List.set_cons_zero, List.set_cons_succ]
    refine hd_take 11 (.slice A6 (m + 1) c6) rfl rfl (by kernel_rfl) (by kernel_rfl) (by kernel_rfl) (fun _ _ _ h => h) (fun w _ => by go_simp) trivial ?_
    refine wpAnyH_done (by kernel_rfl) (NoPanic.normal ?_) _
    simp only [List.getElem_toArray, List.getElem_cons_succ, List.getElem_cons_zero, Act.put, List.setIfInBounds_toArray, List.set_cons_zero, List.set_cons_succ]
    have HO6 := Lib.hid ho6
    have b6 : Below w.heap.size w w6 := b5.trans hb6
    clear ho6
    go_wp2_with fail
    go_ret
    exact ⟨⟨A6, c6, by show _ = Ending.returned (.slice A6 (pathS ks i).length c6); rw [HPL.out]; rfl, by rw [HPP.out]; exact HO6.out⟩, b6⟩

set_option maxHeartbeats 2000000 in
set_option maxRecDepth 100000 in
theorem refPath_high {n : Nat} (ih : ∀ m, m < n → ∀ (ks : List (List UInt8)) (i : Nat) (A : Option Addr) (c : Nat) (w : World), ks.length = m → i < m → KR w A c ks → Calls Try.prog 131 #[.slice A m c, .int .i64 (i : Int)] w fun e w' => (∃ A' c', e = .returned (.slice A' (pathS ks i).length c') ∧ OK16 w.heap.size w' A' c' (pathS ks i)) ∧ Below w.heap.size w w')
    (ks : List (List UInt8)) (i : Nat) (A : Option Addr) (c : Nat) (w : World) (hn : ks.length = n) (hi : i < n) (hbig : n ≤ 1000) (h : KR w A c ks) (h2 : 2 ≤ n) (hk : ¬ i < splitS n) :
    Calls Try.prog 131 #[.slice A n c, .int .i64 (i : Int)] w fun e w' => (∃ A' c', e = .returned (.slice A' (pathS ks i).length c') ∧ OK16 w.heap.size w' A' c' (pathS ks i)) ∧ Below w.heap.size w w' := by
    have hs1 := splitS_pos n
    have hs2 := splitS_lt h2
    have hcl : n ≤ c := by have := Rd.le h.1; omega
    have hni : (2 : Int) ≤ (n : Int) := by omega
    have hnb : (n : Int) ≤ 1000 := by omega
    have hne1 : ¬ (n : Int) = 1 := by omega
    have hii : (i : Int) < (n : Int) := by omega
    have b0 : Below w.heap.size w w := Below.refl _ _
    have HSP : Hid (∀ W, Calls Try.prog 127 #[.int .i64 (n : Int)] W fun e w' => e = .returned (.int .i64 ((splitS n : Nat) : Int)) ∧ W = w') := fun W => refSplit_any n W h2 (by omega)
    have hsl1 := fun W => slice_keys_to W A n c (splitS n) (by omega)
    have hsl2 := fun W => slice_keys_from W A n c (splitS n) (by omega)
    have HPP : Hid (pathS ks i = pathS (ks.drop (splitS n)) (i - splitS n) ++ [rootS (ks.take (splitS n))]) := by have := pathS_high (l := ks) (i := i) (by omega) (by rw [hn]; exact hk); rw [hn] at this; exact this
    have HPA : Hid (∀ W, Below w.heap.size w W → Calls Try.prog 131 #[.slice (dropK A (splitS n) c) (n - splitS n) (c - splitS n), .int .i64 ((i : Int) - ((splitS n : Nat) : Int))] W fun e w' => (∃ A' c', e = .returned (.slice A' (pathS (ks.drop (splitS n)) (i - splitS n)).length c') ∧ OK16 W.heap.size w' A' c' (pathS (ks.drop (splitS n)) (i - splitS n))) ∧ Below W.heap.size W w') := fun W hW => by
      rw [show (i : Int) - ((splitS n : Nat) : Int) = ((i - splitS n : Nat) : Int) from by omega]
      exact ih (n - splitS n) (by omega) _ (i - splitS n) _ _ W (by rw [List.length_drop]; omega) (by omega) ((h.below hW).drop _ (by omega))
    have HRO : Hid (∀ W, Below w.heap.size w W → Calls Try.prog 62 #[.slice A (splitS n) c] W fun e w' => e = .returned (.agg (cellsB (rootS (ks.take (splitS n)))).toArray) ∧ Below W.heap.size W w') := fun W hW => refRootOf_any (splitS n) _ _ _ W (by rw [List.length_take]; omega) (by omega) ((h.below hW).take _ (by omega))
    have HRL : Hid ((rootS (ks.take (splitS n))).length = 16) := rootS_length _
    have hpl : (pathS (ks.drop (splitS n)) (i - splitS n)).length ≤ n := by have := pathS_le (ks.drop (splitS n)) (i - splitS n); rw [List.length_drop] at this; omega
    have hki : ((splitS n : Nat) : Int) ≤ (i : Int) := by omega
    have hki2 : ¬ (i : Int) < ((splitS n : Nat) : Int) := by omega
    generalize rootS (ks.take (splitS n)) = r at HPP HRO HRL
    generalize pathS (ks.drop (splitS n)) (i - splitS n) = ps at HPP HPA hpl
    obtain ⟨m, hm⟩ : ∃ m, ps.length = m := ⟨_, rfl⟩
    rw [hm] at HPA hpl
    have HPS := Lib.hid hm
    have HPL : Hid ((pathS ks i).length = m + 1) := by unfold Hid; rw [HPP.out, List.length_append, hm]; rfl
    generalize splitS n = k at *
    clear ih h hn hbig hm hk
    go_enter Try.func131, Try.ntmps131
    go_wp2_with (go_at_call 127; refine (HSP.out _).mono ?_; rintro e w1 ⟨rfl, rfl⟩)
    refine wp_region_noPanic ?_
    refine wp_region_held_drew (S := fun _ => True) (by kernel_rfl) trivial (fun hS => ?_)
    refine hd_take 0 (.slice A n c) rfl rfl (by kernel_rfl) (by kernel_rfl) (by kernel_rfl) (fun _ _ _ h => h) (fun w _ => by go_simp) hS ?_
    refine hd_take 1 (.int .i64 (k : Int)) rfl rfl (by kernel_rfl) (by kernel_rfl) (by kernel_rfl) (fun _ _ _ h => h) (fun w _ => by go_simp) hS ?_
    refine hd_take 3 (.int .i64 (i : Int)) rfl rfl (by kernel_rfl) (by kernel_rfl) (by kernel_rfl) (fun _ _ _ h => h) (fun w _ => by go_simp) hS ?_
    refine hd_take 4 (.int .i64 (k : Int)) rfl rfl (by kernel_rfl) (by kernel_rfl) (by kernel_rfl) (fun _ _ _ h => h) (fun w _ => by go_simp) hS ?_
    refine hd_take 7 (.slice A n c) rfl rfl (by kernel_rfl) (by kernel_rfl) (by kernel_rfl) (fun _ _ _ h => h) (fun w _ => by go_simp) hS ?_
    refine hd_take 8 (.int .i64 (k : Int)) rfl rfl (by kernel_rfl) (by kernel_rfl) (by kernel_rfl) (fun _ _ _ h => h) (fun w _ => by go_simp) hS ?_
    simp only [List.getElem_toArray, List.getElem_cons_succ, List.getElem_cons_zero, Act.put, List.setIfInBounds_toArray, List.set_cons_zero, List.set_cons_succ]
    refine hd_take 5 (.int .i64 ((i : Int) - (k : Int))) rfl rfl (by kernel_rfl) (by kernel_rfl) (by kernel_rfl) (fun _ _ _ h => h) (fun w _ => by go_simp; rw [IntKind.wrap_i64]; omega) hS ?_
    refine hd_take 2 (.slice (dropK A k c) (n - k) (c - k)) rfl rfl (by kernel_rfl) (by kernel_rfl) (by kernel_rfl) (fun _ _ _ h => h) (fun w _ => by go_simp) hS ?_
    refine hd_take 9 (.slice A k c) rfl rfl (by kernel_rfl) (by kernel_rfl) (by kernel_rfl) (fun _ _ _ h => h) (fun w _ => by go_simp) hS ?_
    simp only [List.getElem_toArray, List.getElem_cons_succ, List.getElem_cons_zero, Act.put, List.setIfInBounds_toArray, List.set_cons_zero, List.set_cons_succ]
    refine hd_calls 6 131 #[.slice (dropK A k c) (n - k) (c - k), .int .i64 ((i : Int) - (k : Int))] rfl rfl (by kernel_rfl) (by go_simp) ((HPA.out _ b0.drew).mono ?_)
    rintro e w3 ⟨⟨A3, c3, rfl, ho3⟩, hb3⟩
    have b3 := bel_on b0.drew hb3
    refine ⟨_, rfl, trivial, ?_⟩
    refine hd_calls 10 62 #[.slice A k c] rfl rfl (by kernel_rfl) (by go_simp) ((HRO.out _ b3).mono ?_)
    rintro e w4 ⟨rfl, hb4⟩
    have b4 := bel_on b3 hb4
    have ho4 := ho3.below hb4
    refine ⟨_, rfl, trivial, ?_⟩
    simp only [List.getElem_toArray, List.getElem_cons_succ, List.getElem_cons_zero, Act.put, List.setIfInBounds_toArray, List.set_cons_zero, List.set_cons_succ]
    have ho5 := ho4.below (alloc_bel w4 (.cells (cellsB r).toArray 23))
    have b5 := b4.alloc b4.size (.cells (cellsB r).toArray 23)
    have hsrc := src_key w4 HRL.out
    have hz5 : w.drew.heap.size ≤ (w4.alloc (.cells (cellsB r).toArray 23)).heap.size := b5.size
    refine hd_sole 11 (by kernel_rfl) (op_buildKey r _ HRL.out rfl rfl rfl rfl ⟨trivial, ?_⟩)
    simp only [List.getElem_toArray, List.getElem_cons_succ, List.getElem_cons_zero, Act.put, List.setIfInBounds_toArray, List.set_cons_zero, List.set_cons_succ]
    refine hd_appendK 12 (.tmp 32) (.tmp 37) rfl rfl rfl (by kernel_rfl) w.drew.heap.size A3 m c3 ps HPS.out rfl ho5 _ 1 1 [r] rfl rfl hsrc (by omega) hz5 ?_
    intro A6 c6 w6 ho6 hb6
    refine ⟨trivial, ?_⟩
    simp only [List.getElem_toArray, List.getElem_cons_succ, List.getElem_cons_zero, Act.put, List.setIfInBounds_toArray, List.set_cons_zero, List.set_cons_succ]
    refine hd_take 13 (.slice A6 (m + 1) c6) rfl rfl (by kernel_rfl) (by kernel_rfl) (by kernel_rfl) (fun _ _ _ h => h) (fun w _ => by go_simp) trivial ?_
    refine wpAnyH_done (by kernel_rfl) (NoPanic.normal ?_) _
    simp only [List.getElem_toArray, List.getElem_cons_succ, List.getElem_cons_zero, Act.put, List.setIfInBounds_toArray, List.set_cons_zero, List.set_cons_succ]
    have HO6 := Lib.hid ho6
    have b6 : Below w.heap.size w w6 := b5.trans hb6
    clear ho6
    go_wp2_with fail
    go_ret
    exact ⟨⟨A6, c6, by show _ = Ending.returned (.slice A6 (pathS ks i).length c6); rw [HPL.out]; rfl, by rw [HPP.out]; exact HO6.out⟩, b6⟩

theorem refPath_any (n : Nat) : ∀ (ks : List (List UInt8)) (i : Nat) (A : Option Addr) (c : Nat) (w : World), ks.length = n → i < n → n ≤ 1000 → KR w A c ks → Calls Try.prog 131 #[.slice A n c, .int .i64 (i : Int)] w fun e w' => (∃ A' c', e = .returned (.slice A' (pathS ks i).length c') ∧ OK16 w.heap.size w' A' c' (pathS ks i)) ∧ Below w.heap.size w w' := by
  induction n using Nat.strongRecOn with
  | _ n ih =>
    intro ks i A c w hn hi hbig h
    rcases Nat.lt_or_ge n 2 with h1 | h2
    · obtain rfl : n = 1 := by omega
      have hp : pathS ks i = [] := pathS_one (by omega) i
      rw [hp]
      clear hn h hp ih hi hbig h1
      go_enter Try.func131, Try.ntmps131
      go_wp2_with fail
      go_ret
      exact ⟨⟨none, 0, rfl, OK16.nil _ _⟩, Below.refl _ _⟩
    · by_cases hk : i < splitS n
      · exact refPath_low (fun m hm ks i A c w h1 h2 h3 => ih m hm ks i A c w h1 h2 (by omega) h3) ks i A c w hn hi hbig h h2 hk
      · exact refPath_high (fun m hm ks i A c w h1 h2 h3 => ih m hm ks i A c w h1 h2 (by omega) h3) ks i A c w hn hi hbig h h2 hk
end Go.Proofs.Ytinpiodfpnbllaa

/- The program's path. -/
namespace Go.Proofs.Ytinpiodfpnbllaa
open Go.RowKit
set_option linter.unusedVariables false

theorem Keys16.snoc {ks : List (List UInt8)} (h : Keys16 ks) {r : List UInt8} (hr : r.length = 16) : Keys16 (ks ++ [r]) := fun k hk => by
  rcases List.mem_append.1 hk with hk | hk
  · exact h k hk
  · rw [List.mem_singleton.1 hk]; exact hr

set_option maxHeartbeats 4000000 in
set_option maxRecDepth 100000 in
theorem prove_any (ks : List (List UInt8)) (i : Nat) (A : Option Addr) (c : Nat) (w : World) {n : Nat} (hn : ks.length = n) (hi : i < n) (hbig : n ≤ 1000) (h : KR w A c ks) :
    Calls Try.prog 130 #[.slice A n c, .int .i64 (i : Int)] w fun e w' => (∃ A' c', e = .returned (.slice A' (pathS ks i).length c') ∧ OK16 w.heap.size w' A' c' (pathS ks i)) ∧ Below w.heap.size w w' := by
  obtain ⟨P0, hP0⟩ : ∃ P, P = pathS ks i := ⟨_, rfl⟩
  have HN := Lib.hid hn
  have HI := Lib.hid hi
  have HH := Lib.hid h
  have HP0 := Lib.hid hP0
  have HBG := Lib.hid hbig
  rw [← hP0]
  clear hP0 hn h hi hbig
  go_enter Try.func130, Try.ntmps130
  go_wp2_with fail
  go_loopw [0, 1, 5] (fun v0 v1 v5 wr => ∃ (ls : List (List UInt8)) (m : Nat) (j : Nat) (B : Option Addr) (d : Nat) (os : List (List UInt8)) (q : Nat) (O : Option Addr) (co : Nat), v0 = .slice B m d ∧ v1 = .int .i64 (j : Int) ∧ v5 = .slice O q co ∧ ls.length = m ∧ os.length = q ∧ j < m ∧ m + q ≤ n ∧ KR w B d ls ∧ OK16 w.heap.size wr O co os ∧ Keys16 os ∧ P0 = pathS ls j ++ os.reverse ∧ Below w.heap.size w wr) (fun v0 _ _ _ => lenV v0)
  case atStart => exact ⟨ks, n, i, A, c, [], 0, none, 0, rfl, rfl, rfl, HN.out, rfl, HI.out, by omega, HH.out, OK16.nil _ _, (by intro k hk; cases hk), (by rw [HP0.out]; simp), Below.refl _ _⟩
  case round =>
    obtain ⟨ls, m, j, B, d, os, q, O, co, rfl, rfl, rfl, hls, hos, hj, hmq, hkr, hok, hk16, hP, hb⟩ := hrel
    have hbig := HBG.out
    have HB := Lib.hid hb
    have HOK := Lib.hid hok
    have HOS := Lib.hid hos
    have HKK := Lib.hid hk16
    by_cases h2 : 2 ≤ m
    · have hs1 := splitS_pos m
      have hs2 := splitS_lt h2
      have hcl : m ≤ d := by have := Rd.le hkr.1; omega
      have hni : (2 : Int) ≤ (m : Int) := by omega
      have hmb : (m : Int) ≤ 1000 := by omega
      have hgt : (1 : Int) < (m : Int) := by omega
      have HSP : Hid (∀ W, Calls Try.prog 72 #[.int .i64 (m : Int)] W fun e w' => e = .returned (.int .i64 ((splitS m : Nat) : Int)) ∧ W = w') := fun W => split_any m W h2 (by omega)
      have hsl1 := fun W => slice_keys_to W B m d (splitS m) (by omega)
      have hsl2 := fun W => slice_keys_from W B m d (splitS m) (by omega)
      by_cases hk : j < splitS m
      · have hjk : (j : Int) < ((splitS m : Nat) : Int) := by omega
        have HPE : Hid (P0 = pathS (ls.take (splitS m)) j ++ (os ++ [rootS (ls.drop (splitS m))]).reverse) := by unfold Hid; have := pathS_low (l := ls) (i := j) (by omega) (by rw [hls]; exact hk); rw [hls] at this; rw [hP, this]; simp
        have HRL : Hid ((rootS (ls.drop (splitS m))).length = 16) := rootS_length _
        have HLS : Hid ((ls.take (splitS m)).length = splitS m) := by unfold Hid; simp only [List.length_take, List.length_drop]; omega
        have HKR : Hid (KR w B d (ls.take (splitS m))) := hkr.take _ (by omega)
        have HRO : Hid (∀ W, Below wr.heap.size wr W → Calls Try.prog 61 #[.slice (dropK B (splitS m) d) (m - splitS m) (d - splitS m)] W fun e w' => e = .returned (.agg (cellsB (rootS (ls.drop (splitS m)))).toArray) ∧ Below W.heap.size W w') := fun W hW => root_any _ _ _ W (by rw [List.length_drop]; omega) (by omega) ((hkr.below (bel_on hb hW)).drop _ (by omega))
        generalize rootS (ls.drop (splitS m)) = r at HPE HRL HRO
        generalize ls.take (splitS m) = ls' at HPE HLS HKR
        generalize splitS m = k at *
        clear hP hkr hls hk ls
        go_wp2_with (go_at_call 72; refine (HSP.out _).mono ?_; rintro e w1 ⟨rfl, rfl⟩)
        refine wp_region_noPanic ?_
        refine wp_region_held_drew (S := fun _ => True) (by kernel_rfl) trivial (fun hS => ?_)
        refine hd_take 0 (.slice O q co) rfl rfl (by kernel_rfl) (by kernel_rfl) (by kernel_rfl) (fun _ _ _ h => h) (fun w _ => by go_simp) trivial ?_
        refine hd_take 1 (.slice B m d) rfl rfl (by kernel_rfl) (by kernel_rfl) (by kernel_rfl) (fun _ _ _ h => h) (fun w _ => by go_simp) trivial ?_
        refine hd_take 2 (.int .i64 (k : Int)) rfl rfl (by kernel_rfl) (by kernel_rfl) (by kernel_rfl) (fun _ _ _ h => h) (fun w _ => by go_simp) trivial ?_
        refine hd_take 7 (.slice B m d) rfl rfl (by kernel_rfl) (by kernel_rfl) (by kernel_rfl) (fun _ _ _ h => h) (fun w _ => by go_simp) trivial ?_
        refine hd_take 8 (.int .i64 (k : Int)) rfl rfl (by kernel_rfl) (by kernel_rfl) (by kernel_rfl) (fun _ _ _ h => h) (fun w _ => by go_simp) trivial ?_
        simp only [List.getElem_toArray, List.getElem_cons_succ, List.getElem_cons_zero, Act.put, List.setIfInBounds_toArray, List.set_cons_zero, List.set_cons_succ]
        refine hd_take 3 (.slice (dropK B k d) (m - k) (d - k)) rfl rfl (by kernel_rfl) (by kernel_rfl) (by kernel_rfl) (fun _ _ _ h => h) (fun w _ => by go_simp) trivial ?_
        refine hd_take 9 (.slice B k d) rfl rfl (by kernel_rfl) (by kernel_rfl) (by kernel_rfl) (fun _ _ _ h => h) (fun w _ => by go_simp) trivial ?_
        simp only [List.getElem_toArray, List.getElem_cons_succ, List.getElem_cons_zero, Act.put, List.setIfInBounds_toArray, List.set_cons_zero, List.set_cons_succ]
        refine hd_calls 4 61 #[.slice (dropK B k d) (m - k) (d - k)] rfl rfl (by kernel_rfl) (by go_simp) ((HRO.out _ (Below.refl _ _).drew).mono ?_)
        rintro e w4 ⟨rfl, hb4⟩
        have b4 : Below wr.heap.size wr w4 := bel_on (Below.refl _ _).drew hb4
        have ho4 := HOK.out.below b4
        refine ⟨_, rfl, trivial, ?_⟩
        simp only [List.getElem_toArray, List.getElem_cons_succ, List.getElem_cons_zero, Act.put, List.setIfInBounds_toArray, List.set_cons_zero, List.set_cons_succ]
        have ho5 := ho4.below (alloc_bel w4 (.cells (cellsB r).toArray 23))
        have b5 := b4.alloc b4.size (.cells (cellsB r).toArray 23)
        have hsrc := src_key w4 HRL.out
        have hz5 : w.heap.size ≤ (w4.alloc (.cells (cellsB r).toArray 23)).heap.size := Nat.le_trans HB.out.size b5.size
        refine hd_sole 5 (by kernel_rfl) (op_buildKey r _ HRL.out rfl rfl rfl rfl ⟨trivial, ?_⟩)
        simp only [List.getElem_toArray, List.getElem_cons_succ, List.getElem_cons_zero, Act.put, List.setIfInBounds_toArray, List.set_cons_zero, List.set_cons_succ]
        refine hd_appendK 6 (.tmp 16) (.tmp 21) rfl rfl rfl (by kernel_rfl) w.heap.size O q co os HOS.out rfl ho5 _ 1 1 [r] rfl rfl hsrc (by omega) hz5 ?_
        intro A6 c6 w6 ho6 hb6
        refine ⟨trivial, ?_⟩
        simp only [List.getElem_toArray, List.getElem_cons_succ, List.getElem_cons_zero, Act.put, List.setIfInBounds_toArray, List.set_cons_zero, List.set_cons_succ]
        refine hd_take 10 (.slice A6 (q + 1) c6) rfl rfl (by kernel_rfl) (by kernel_rfl) (by kernel_rfl) (fun _ _ _ h => h) (fun w _ => by go_simp) trivial ?_
        refine hd_take 11 (.slice B k d) rfl rfl (by kernel_rfl) (by kernel_rfl) (by kernel_rfl) (fun _ _ _ h => h) (fun w _ => by go_simp) trivial ?_
        refine wpAnyH_done (by kernel_rfl) (NoPanic.normal ?_) _
        simp only [List.getElem_toArray, List.getElem_cons_succ, List.getElem_cons_zero, Act.put, List.setIfInBounds_toArray, List.set_cons_zero, List.set_cons_succ]
        have HO6 := Lib.hid ho6
        have b6 : Below w.heap.size w w6 := (HB.out.trans (Below.mono b5 HB.out.size)).trans hb6
        clear ho6 ho5 ho4 hsrc
        go_wp2_with fail
        go_roundw
        case rel => exact ⟨_, k, j, B, d, os ++ [r], q + 1, A6, c6, rfl, rfl, rfl, HLS.out, by rw [List.length_append, HOS.out]; rfl, by omega, by omega, HKR.out, HO6.out, HKK.out.snoc HRL.out, HPE.out, b6⟩
        case measure => simp only [lenV]; omega
      · have hjk : ¬ (j : Int) < ((splitS m : Nat) : Int) := by omega
        have hjk2 : ((splitS m : Nat) : Int) ≤ (j : Int) := by omega
        have HPE : Hid (P0 = pathS (ls.drop (splitS m)) (j - splitS m) ++ (os ++ [rootS (ls.take (splitS m))]).reverse) := by unfold Hid; have := pathS_high (l := ls) (i := j) (by omega) (by rw [hls]; exact hk); rw [hls] at this; rw [hP, this]; simp
        have HRL : Hid ((rootS (ls.take (splitS m))).length = 16) := rootS_length _
        have HLS : Hid ((ls.drop (splitS m)).length = m - splitS m) := by unfold Hid; simp only [List.length_take, List.length_drop]; omega
        have HKR : Hid (KR w (dropK B (splitS m) d) (d - splitS m) (ls.drop (splitS m))) := hkr.drop _ (by omega)
        have HRO : Hid (∀ W, Below wr.heap.size wr W → Calls Try.prog 61 #[.slice B (splitS m) d] W fun e w' => e = .returned (.agg (cellsB (rootS (ls.take (splitS m)))).toArray) ∧ Below W.heap.size W w') := fun W hW => root_any _ _ _ W (by rw [List.length_take]; omega) (by omega) ((hkr.below (bel_on hb hW)).take _ (by omega))
        generalize rootS (ls.take (splitS m)) = r at HPE HRL HRO
        generalize ls.drop (splitS m) = ls' at HPE HLS HKR
        generalize splitS m = k at *
        clear hP hkr hls hk ls
        go_wp2_with (go_at_call 72; refine (HSP.out _).mono ?_; rintro e w1 ⟨rfl, rfl⟩)
        refine wp_region_noPanic ?_
        refine wp_region_held_drew (S := fun _ => True) (by kernel_rfl) trivial (fun hS => ?_)
        refine hd_take 0 (.slice O q co) rfl rfl (by kernel_rfl) (by kernel_rfl) (by kernel_rfl) (fun _ _ _ h => h) (fun w _ => by go_simp) trivial ?_
        refine hd_take 1 (.slice B m d) rfl rfl (by kernel_rfl) (by kernel_rfl) (by kernel_rfl) (fun _ _ _ h => h) (fun w _ => by go_simp) trivial ?_
        refine hd_take 2 (.int .i64 (k : Int)) rfl rfl (by kernel_rfl) (by kernel_rfl) (by kernel_rfl) (fun _ _ _ h => h) (fun w _ => by go_simp) trivial ?_
        refine hd_take 7 (.slice B m d) rfl rfl (by kernel_rfl) (by kernel_rfl) (by kernel_rfl) (fun _ _ _ h => h) (fun w _ => by go_simp) trivial ?_
        refine hd_take 8 (.int .i64 (k : Int)) rfl rfl (by kernel_rfl) (by kernel_rfl) (by kernel_rfl) (fun _ _ _ h => h) (fun w _ => by go_simp) trivial ?_
        refine hd_take 10 (.int .i64 (j : Int)) rfl rfl (by kernel_rfl) (by kernel_rfl) (by kernel_rfl) (fun _ _ _ h => h) (fun w _ => by go_simp) trivial ?_
        refine hd_take 11 (.int .i64 (k : Int)) rfl rfl (by kernel_rfl) (by kernel_rfl) (by kernel_rfl) (fun _ _ _ h => h) (fun w _ => by go_simp) trivial ?_
        simp only [List.getElem_toArray, List.getElem_cons_succ, List.getElem_cons_zero, Act.put, List.setIfInBounds_toArray, List.set_cons_zero, List.set_cons_succ]
        refine hd_take 3 (.slice B k d) rfl rfl (by kernel_rfl) (by kernel_rfl) (by kernel_rfl) (fun _ _ _ h => h) (fun w _ => by go_simp) trivial ?_
        refine hd_take 9 (.slice (dropK B k d) (m - k) (d - k)) rfl rfl (by kernel_rfl) (by kernel_rfl) (by kernel_rfl) (fun _ _ _ h => h) (fun w _ => by go_simp) trivial ?_
        refine hd_take 12 (.int .i64 ((j : Int) - (k : Int))) rfl rfl (by kernel_rfl) (by kernel_rfl) (by kernel_rfl) (fun _ _ _ h => h) (fun w _ => by go_simp; rw [IntKind.wrap_i64]; omega) trivial ?_
        simp only [List.getElem_toArray, List.getElem_cons_succ, List.getElem_cons_zero, Act.put, List.setIfInBounds_toArray, List.set_cons_zero, List.set_cons_succ]
        refine hd_calls 4 61 #[.slice B k d] rfl rfl (by kernel_rfl) (by go_simp) ((HRO.out _ (Below.refl _ _).drew).mono ?_)
        rintro e w4 ⟨rfl, hb4⟩
        have b4 : Below wr.heap.size wr w4 := bel_on (Below.refl _ _).drew hb4
        have ho4 := HOK.out.below b4
        refine ⟨_, rfl, trivial, ?_⟩
        simp only [List.getElem_toArray, List.getElem_cons_succ, List.getElem_cons_zero, Act.put, List.setIfInBounds_toArray, List.set_cons_zero, List.set_cons_succ]
        have ho5 := ho4.below (alloc_bel w4 (.cells (cellsB r).toArray 23))
        have b5 := b4.alloc b4.size (.cells (cellsB r).toArray 23)
        have hsrc := src_key w4 HRL.out
        have hz5 : w.heap.size ≤ (w4.alloc (.cells (cellsB r).toArray 23)).heap.size := Nat.le_trans HB.out.size b5.size
        refine hd_sole 5 (by kernel_rfl) (op_buildKey r _ HRL.out rfl rfl rfl rfl ⟨trivial, ?_⟩)
        simp only [List.getElem_toArray, List.getElem_cons_succ, List.getElem_cons_zero, Act.put, List.setIfInBounds_toArray, List.set_cons_zero, List.set_cons_succ]
        refine hd_appendK 6 (.tmp 26) (.tmp 31) rfl rfl rfl (by kernel_rfl) w.heap.size O q co os HOS.out rfl ho5 _ 1 1 [r] rfl rfl hsrc (by omega) hz5 ?_
        intro A6 c6 w6 ho6 hb6
        refine ⟨trivial, ?_⟩
        simp only [List.getElem_toArray, List.getElem_cons_succ, List.getElem_cons_zero, Act.put, List.setIfInBounds_toArray, List.set_cons_zero, List.set_cons_succ]
        refine hd_take 13 (.slice A6 (q + 1) c6) rfl rfl (by kernel_rfl) (by kernel_rfl) (by kernel_rfl) (fun _ _ _ h => h) (fun w _ => by go_simp) trivial ?_
        refine hd_take 14 (.slice (dropK B k d) (m - k) (d - k)) rfl rfl (by kernel_rfl) (by kernel_rfl) (by kernel_rfl) (fun _ _ _ h => h) (fun w _ => by go_simp) trivial ?_
        refine hd_take 15 (.int .i64 ((j : Int) - (k : Int))) rfl rfl (by kernel_rfl) (by kernel_rfl) (by kernel_rfl) (fun _ _ _ h => h) (fun w _ => by go_simp) trivial ?_
        refine wpAnyH_done (by kernel_rfl) (NoPanic.normal ?_) _
        simp only [List.getElem_toArray, List.getElem_cons_succ, List.getElem_cons_zero, Act.put, List.setIfInBounds_toArray, List.set_cons_zero, List.set_cons_succ]
        have HO6 := Lib.hid ho6
        have b6 : Below w.heap.size w w6 := (HB.out.trans (Below.mono b5 HB.out.size)).trans hb6
        clear ho6 ho5 ho4 hsrc
        go_wp2_with fail
        go_roundw
        case rel => exact ⟨_, m - k, j - k, _, _, os ++ [r], q + 1, A6, c6, rfl, by rw [show ((j - k : Nat) : Int) = (j : Int) - (k : Int) from by omega], rfl, HLS.out, by rw [List.length_append, HOS.out]; rfl, by omega, by omega, HKR.out, HO6.out, HKK.out.snoc HRL.out, HPE.out, b6⟩
        case measure => simp only [lenV]; omega
    · obtain rfl : m = 1 := by omega
      have hpe : P0 = os.reverse := by rw [hP, pathS_one (by omega)]; rfl
      have hql : os.reverse.length = q := by rw [List.length_reverse, hos]
      have HRV : Hid (∀ W, Below wr.heap.size wr W → Calls Try.prog 73 #[.slice O q co] W fun e w' => e = .returned (.tuple #[]) ∧ OK16 w.heap.size w' O co os.reverse ∧ Below w.heap.size W w') := fun W hW => reverse_any os O co W hos (hok.below hW) hk16 (by omega)
      have HPE := Lib.hid hpe
      have HQL : Hid (P0.length = q) := by unfold Hid; rw [hpe]; exact hql
      clear hP hkr hls hok hk16 hos ls hj HOK HOS HKK hpe hql
      generalize os.reverse = rs at HRV HPE
      go_wp2_with (go_at_call 73; refine (HRV.out _ (Below.refl _ _)).mono ?_; rintro e w2 ⟨rfl, ho2, hb2⟩; have HO2 := Lib.hid ho2; clear ho2)
      go_ret
      exact ⟨⟨O, co, by show _ = Ending.returned (.slice O P0.length co); rw [HQL.out]; rfl, by rw [HPE.out]; exact HO2.out⟩, hb.trans hb2⟩
end Go.Proofs.Ytinpiodfpnbllaa

/- The reference's part of a list, for a growth. -/
namespace Go.Proofs.Ytinpiodfpnbllaa
open Go.RowKit
set_option linter.unusedVariables false

theorem partS_le : ∀ (l : List (List UInt8)) (m : Nat) (wh : Bool), (partS l m wh).length ≤ l.length + 1 := by
  suffices h : ∀ n (l : List (List UInt8)) m wh, l.length = n → (partS l m wh).length ≤ l.length + 1 from fun l m wh => h _ l m wh rfl
  intro n
  induction n using Nat.strongRecOn with
  | _ n ih =>
    intro l m wh hn
    rw [partS]
    split
    · split <;> simp
    · rename_i h
      have h1 := splitS_lt (n := l.length) (by omega)
      have h2 := splitS_pos l.length
      split
      · rw [List.length_append]
        have := ih (splitS l.length) (by omega) (l.take (splitS l.length)) m wh (by rw [List.length_take]; omega)
        rw [List.length_take] at this
        simp only [List.length_cons, List.length_nil]
        omega
      · rw [List.length_append]
        have := ih (l.length - splitS l.length) (by omega) (l.drop (splitS l.length)) (m - splitS l.length) false (by rw [List.length_drop])
        rw [List.length_drop] at this
        simp only [List.length_cons, List.length_nil]
        omega
theorem wpList_buildKey (w : World) {ops : Array Oper} {rest : List Oper} {o : Oper} {a : Act} {Q : Exit → Act → World → Prop} (hg : o.guard = none) (k : List UInt8) (x : Operand) (hk : k.length = 16) (ho : o.op = .buildSlice 40 1 #[(0, x)]) (hx : a.eval x = .agg (cellsB k).toArray)
    (h : wpList Try.prog ops Q rest (a.put o.dst (.slice (some ⟨w.heap.size, 0, none⟩) 1 1)) (w.alloc (.cells (cellsB k).toArray 23))) : wpList Try.prog ops Q (o :: rest) a w := by
  refine wpList_plain hg fun K hK => ?_
  unfold Oper.wp execOp
  simp only [ho, List.map_toArray, List.map_cons, List.map_nil, hx, Sem.run_bind, run_build_key w k hk, Result.andThen_ok]
  exact hK _ _ h
theorem OK16.lit (B : Nat) (w : World) (k : List UInt8) (hk : k.length = 16) (hB : B ≤ w.heap.size) : OK16 B (w.alloc (.cells (cellsB k).toArray 23)) (some ⟨w.heap.size, 0, none⟩) 1 [k] := by
  have h := World.ownsRow_lit (e := 23) (size := 16) w (cellsB k).toArray 1 hB (by simp [maxLen]) (by simp [cellsB, hk])
  unfold OK16
  rw [cellsK_one]
  simpa using h

set_option maxHeartbeats 2000000 in
set_option maxRecDepth 100000 in
theorem refPart_low {n : Nat} (ih : ∀ m, m < n → ∀ (ks : List (List UInt8)) (i : Nat) (wh : Bool) (A : Option Addr) (c : Nat) (w : World), ks.length = m → 1 ≤ i → i ≤ m → KR w A c ks → Calls Try.prog 74 #[.slice A m c, .int .i64 (i : Int), .bool wh] w fun e w' => (∃ A' c', e = .returned (.slice A' (partS ks i wh).length c') ∧ OK16 w.heap.size w' A' c' (partS ks i wh)) ∧ Below w.heap.size w w')
    (ks : List (List UInt8)) (i : Nat) (wh : Bool) (A : Option Addr) (c : Nat) (w : World) (hn : ks.length = n) (hi1 : 1 ≤ i) (hi : i < n) (hbig : n ≤ 1000) (h : KR w A c ks) (h2 : 2 ≤ n) (hk : i ≤ splitS n) :
    Calls Try.prog 74 #[.slice A n c, .int .i64 (i : Int), .bool wh] w fun e w' => (∃ A' c', e = .returned (.slice A' (partS ks i wh).length c') ∧ OK16 w.heap.size w' A' c' (partS ks i wh)) ∧ Below w.heap.size w w' := by
    have hs1 := splitS_pos n
    have hs2 := splitS_lt h2
    have hcl : n ≤ c := by have := Rd.le h.1; omega
    have hni : (2 : Int) ≤ (n : Int) := by omega
    have hnb : (n : Int) ≤ 1000 := by omega
    have hne1 : ¬ (n : Int) = 1 := by omega
    have hii : (i : Int) < (n : Int) := by omega
    have b0 : Below w.heap.size w w := Below.refl _ _
    have HSP : Hid (∀ W, Calls Try.prog 127 #[.int .i64 (n : Int)] W fun e w' => e = .returned (.int .i64 ((splitS n : Nat) : Int)) ∧ W = w') := fun W => refSplit_any n W h2 (by omega)
    have hsl1 := fun W => slice_keys_to W A n c (splitS n) (by omega)
    have hsl2 := fun W => slice_keys_from W A n c (splitS n) (by omega)
    have HPP : Hid (partS ks i wh = partS (ks.take (splitS n)) i wh ++ [rootS (ks.drop (splitS n))]) := by have := partS_low (l := ks) (m := i) wh (by omega) (by omega) (by rw [hn]; exact hk); rw [hn] at this; exact this
    have HPA : Hid (∀ W, Below w.heap.size w W → Calls Try.prog 74 #[.slice A (splitS n) c, .int .i64 (i : Int), .bool wh] W fun e w' => (∃ A' c', e = .returned (.slice A' (partS (ks.take (splitS n)) i wh).length c') ∧ OK16 W.heap.size w' A' c' (partS (ks.take (splitS n)) i wh)) ∧ Below W.heap.size W w') := fun W hW => ih (splitS n) hs2 _ i wh A c W (by rw [List.length_take]; omega) hi1 hk ((h.below hW).take _ (by omega))
    have HRO : Hid (∀ W, Below w.heap.size w W → Calls Try.prog 62 #[.slice (dropK A (splitS n) c) (n - splitS n) (c - splitS n)] W fun e w' => e = .returned (.agg (cellsB (rootS (ks.drop (splitS n)))).toArray) ∧ Below W.heap.size W w') := fun W hW => refRootOf_any (n - splitS n) _ _ _ W (by rw [List.length_drop]; omega) (by omega) ((h.below hW).drop _ (by omega))
    have HRL : Hid ((rootS (ks.drop (splitS n))).length = 16) := rootS_length _
    have hpl : (partS (ks.take (splitS n)) i wh).length ≤ n + 1 := by have := partS_le (ks.take (splitS n)) i wh; rw [List.length_take] at this; omega
    have hki : (i : Int) ≤ ((splitS n : Nat) : Int) := by omega
    have hne2 : ¬ (i : Int) = (n : Int) := by omega
    generalize rootS (ks.drop (splitS n)) = r at HPP HRO HRL
    generalize partS (ks.take (splitS n)) i wh = ps at HPP HPA hpl
    obtain ⟨m, hm⟩ : ∃ m, ps.length = m := ⟨_, rfl⟩
    rw [hm] at HPA hpl
    have HPS := Lib.hid hm
    have HPL : Hid ((partS ks i wh).length = m + 1) := by unfold Hid; rw [HPP.out, List.length_append, hm]; rfl
    generalize splitS n = k at *
    clear ih h hn hbig hm hk
    go_enter Try.func74, Try.ntmps74
    go_wp2_with (go_at_call 127; refine (HSP.out _).mono ?_; rintro e w1 ⟨rfl, rfl⟩)
    refine wp_region_noPanic ?_
    refine wp_region_held_drew (S := fun _ => True) (by kernel_rfl) trivial (fun hS => ?_)
    refine hd_take 0 (.slice A n c) rfl rfl (by kernel_rfl) (by kernel_rfl) (by kernel_rfl) (fun _ _ _ h => h) (fun w _ => by go_simp) hS ?_
    refine hd_take 1 (.int .i64 (k : Int)) rfl rfl (by kernel_rfl) (by kernel_rfl) (by kernel_rfl) (fun _ _ _ h => h) (fun w _ => by go_simp) hS ?_
    refine hd_take 3 (.int .i64 (i : Int)) rfl rfl (by kernel_rfl) (by kernel_rfl) (by kernel_rfl) (fun _ _ _ h => h) (fun w _ => by go_simp) hS ?_
    refine hd_take 4 (.bool wh) rfl rfl (by kernel_rfl) (by kernel_rfl) (by kernel_rfl) (fun _ _ _ h => h) (fun w _ => by go_simp) hS ?_
    refine hd_take 6 (.slice A n c) rfl rfl (by kernel_rfl) (by kernel_rfl) (by kernel_rfl) (fun _ _ _ h => h) (fun w _ => by go_simp) hS ?_
    refine hd_take 7 (.int .i64 (k : Int)) rfl rfl (by kernel_rfl) (by kernel_rfl) (by kernel_rfl) (fun _ _ _ h => h) (fun w _ => by go_simp) hS ?_
    simp only [List.getElem_toArray, List.getElem_cons_succ, List.getElem_cons_zero, Act.put, List.setIfInBounds_toArray, List.set_cons_zero, List.set_cons_succ]
    refine hd_take 2 (.slice A k c) rfl rfl (by kernel_rfl) (by kernel_rfl) (by kernel_rfl) (fun _ _ _ h => h) (fun w _ => by go_simp) hS ?_
    refine hd_take 8 (.slice (dropK A k c) (n - k) (c - k)) rfl rfl (by kernel_rfl) (by kernel_rfl) (by kernel_rfl) (fun _ _ _ h => h) (fun w _ => by go_simp) hS ?_
    simp only [List.getElem_toArray, List.getElem_cons_succ, List.getElem_cons_zero, Act.put, List.setIfInBounds_toArray, List.set_cons_zero, List.set_cons_succ]
    refine hd_calls 5 74 #[.slice A k c, .int .i64 (i : Int), .bool wh] rfl rfl (by kernel_rfl) (by go_simp) ((HPA.out _ b0.drew).mono ?_)
    rintro e w3 ⟨⟨A3, c3, rfl, ho3⟩, hb3⟩
    have b3 := bel_on b0.drew hb3
    refine ⟨_, rfl, trivial, ?_⟩
    refine hd_calls 9 62 #[.slice (dropK A k c) (n - k) (c - k)] rfl rfl (by kernel_rfl) (by go_simp) ((HRO.out _ b3).mono ?_)
    rintro e w4 ⟨rfl, hb4⟩
    have b4 := bel_on b3 hb4
    have ho4 := ho3.below hb4
    refine ⟨_, rfl, trivial, ?_⟩
    simp only [List.getElem_toArray, List.getElem_cons_succ, List.getElem_cons_zero, Act.put, List.setIfInBounds_toArray, List.set_cons_zero, List.set_cons_succ]
    have ho5 := ho4.below (alloc_bel w4 (.cells (cellsB r).toArray 23))
    have b5 := b4.alloc b4.size (.cells (cellsB r).toArray 23)
    have hsrc := src_key w4 HRL.out
    have hz5 : w.drew.heap.size ≤ (w4.alloc (.cells (cellsB r).toArray 23)).heap.size := b5.size
    refine hd_sole 10 (by kernel_rfl) (op_buildKey r _ HRL.out rfl rfl rfl rfl ⟨trivial, ?_⟩)
    simp only [List.getElem_toArray, List.getElem_cons_succ, List.getElem_cons_zero, Act.put, List.setIfInBounds_toArray, List.set_cons_zero, List.set_cons_succ]
    refine hd_appendK 11 (.tmp 27) (.tmp 32) rfl rfl rfl (by kernel_rfl) w.drew.heap.size A3 m c3 ps HPS.out rfl ho5 _ 1 1 [r] rfl rfl hsrc (by omega) hz5 ?_
    intro A6 c6 w6 ho6 hb6
    refine ⟨trivial, ?_⟩
    simp only [List.getElem_toArray, List.getElem_cons_succ, List.getElem_cons_zero, Act.put, List.setIfInBounds_toArray, List.set_cons_zero, List.set_cons_succ]
    refine hd_take 12 (.slice A6 (m + 1) c6) rfl rfl (by kernel_rfl) (by kernel_rfl) (by kernel_rfl) (fun _ _ _ h => h) (fun w _ => by go_simp) trivial ?_
    refine wpAnyH_done (by kernel_rfl) (NoPanic.normal ?_) _
    simp only [List.getElem_toArray, List.getElem_cons_succ, List.getElem_cons_zero, Act.put, List.setIfInBounds_toArray, List.set_cons_zero, List.set_cons_succ]
    have HO6 := Lib.hid ho6
    have b6 : Below w.heap.size w w6 := b5.trans hb6
    clear ho6
    go_wp2_with fail
    go_ret
    exact ⟨⟨A6, c6, by show _ = Ending.returned (.slice A6 (partS ks i wh).length c6); rw [HPL.out]; rfl, by rw [HPP.out]; exact HO6.out⟩, b6⟩

set_option maxHeartbeats 2000000 in
set_option maxRecDepth 100000 in
theorem refPart_high {n : Nat} (ih : ∀ m, m < n → ∀ (ks : List (List UInt8)) (i : Nat) (wh : Bool) (A : Option Addr) (c : Nat) (w : World), ks.length = m → 1 ≤ i → i ≤ m → KR w A c ks → Calls Try.prog 74 #[.slice A m c, .int .i64 (i : Int), .bool wh] w fun e w' => (∃ A' c', e = .returned (.slice A' (partS ks i wh).length c') ∧ OK16 w.heap.size w' A' c' (partS ks i wh)) ∧ Below w.heap.size w w')
    (ks : List (List UInt8)) (i : Nat) (wh : Bool) (A : Option Addr) (c : Nat) (w : World) (hn : ks.length = n) (hi1 : 1 ≤ i) (hi : i < n) (hbig : n ≤ 1000) (h : KR w A c ks) (h2 : 2 ≤ n) (hk : ¬ i ≤ splitS n) :
    Calls Try.prog 74 #[.slice A n c, .int .i64 (i : Int), .bool wh] w fun e w' => (∃ A' c', e = .returned (.slice A' (partS ks i wh).length c') ∧ OK16 w.heap.size w' A' c' (partS ks i wh)) ∧ Below w.heap.size w w' := by
    have hs1 := splitS_pos n
    have hs2 := splitS_lt h2
    have hcl : n ≤ c := by have := Rd.le h.1; omega
    have hni : (2 : Int) ≤ (n : Int) := by omega
    have hnb : (n : Int) ≤ 1000 := by omega
    have hne1 : ¬ (n : Int) = 1 := by omega
    have hii : (i : Int) < (n : Int) := by omega
    have b0 : Below w.heap.size w w := Below.refl _ _
    have HSP : Hid (∀ W, Calls Try.prog 127 #[.int .i64 (n : Int)] W fun e w' => e = .returned (.int .i64 ((splitS n : Nat) : Int)) ∧ W = w') := fun W => refSplit_any n W h2 (by omega)
    have hsl1 := fun W => slice_keys_to W A n c (splitS n) (by omega)
    have hsl2 := fun W => slice_keys_from W A n c (splitS n) (by omega)
    have HPP : Hid (partS ks i wh = partS (ks.drop (splitS n)) (i - splitS n) false ++ [rootS (ks.take (splitS n))]) := by have := partS_high (l := ks) (m := i) wh (by omega) (by omega) (by rw [hn]; exact hk); rw [hn] at this; exact this
    have HPA : Hid (∀ W, Below w.heap.size w W → Calls Try.prog 74 #[.slice (dropK A (splitS n) c) (n - splitS n) (c - splitS n), .int .i64 ((i : Int) - ((splitS n : Nat) : Int)), .bool false] W fun e w' => (∃ A' c', e = .returned (.slice A' (partS (ks.drop (splitS n)) (i - splitS n) false).length c') ∧ OK16 W.heap.size w' A' c' (partS (ks.drop (splitS n)) (i - splitS n) false)) ∧ Below W.heap.size W w') := fun W hW => by
      rw [show (i : Int) - ((splitS n : Nat) : Int) = ((i - splitS n : Nat) : Int) from by omega]
      exact ih (n - splitS n) (by omega) _ (i - splitS n) false _ _ W (by rw [List.length_drop]; omega) (by omega) (by omega) ((h.below hW).drop _ (by omega))
    have HRO : Hid (∀ W, Below w.heap.size w W → Calls Try.prog 62 #[.slice A (splitS n) c] W fun e w' => e = .returned (.agg (cellsB (rootS (ks.take (splitS n)))).toArray) ∧ Below W.heap.size W w') := fun W hW => refRootOf_any (splitS n) _ _ _ W (by rw [List.length_take]; omega) (by omega) ((h.below hW).take _ (by omega))
    have HRL : Hid ((rootS (ks.take (splitS n))).length = 16) := rootS_length _
    have hpl : (partS (ks.drop (splitS n)) (i - splitS n) false).length ≤ n + 1 := by have := partS_le (ks.drop (splitS n)) (i - splitS n) false; rw [List.length_drop] at this; omega
    have hki : ((splitS n : Nat) : Int) < (i : Int) := by omega
    have hne2 : ¬ (i : Int) = (n : Int) := by omega
    have hki2 : ¬ (i : Int) ≤ ((splitS n : Nat) : Int) := by omega
    generalize rootS (ks.take (splitS n)) = r at HPP HRO HRL
    generalize partS (ks.drop (splitS n)) (i - splitS n) false = ps at HPP HPA hpl
    obtain ⟨m, hm⟩ : ∃ m, ps.length = m := ⟨_, rfl⟩
    rw [hm] at HPA hpl
    have HPS := Lib.hid hm
    have HPL : Hid ((partS ks i wh).length = m + 1) := by unfold Hid; rw [HPP.out, List.length_append, hm]; rfl
    generalize splitS n = k at *
    clear ih h hn hbig hm hk
    go_enter Try.func74, Try.ntmps74
    go_wp2_with (go_at_call 127; refine (HSP.out _).mono ?_; rintro e w1 ⟨rfl, rfl⟩)
    refine wp_region_noPanic ?_
    refine wp_region_held_drew (S := fun _ => True) (by kernel_rfl) trivial (fun hS => ?_)
    refine hd_take 0 (.slice A n c) rfl rfl (by kernel_rfl) (by kernel_rfl) (by kernel_rfl) (fun _ _ _ h => h) (fun w _ => by go_simp) hS ?_
    refine hd_take 1 (.int .i64 (k : Int)) rfl rfl (by kernel_rfl) (by kernel_rfl) (by kernel_rfl) (fun _ _ _ h => h) (fun w _ => by go_simp) hS ?_
    refine hd_take 3 (.int .i64 (i : Int)) rfl rfl (by kernel_rfl) (by kernel_rfl) (by kernel_rfl) (fun _ _ _ h => h) (fun w _ => by go_simp) hS ?_
    refine hd_take 4 (.int .i64 (k : Int)) rfl rfl (by kernel_rfl) (by kernel_rfl) (by kernel_rfl) (fun _ _ _ h => h) (fun w _ => by go_simp) hS ?_
    refine hd_take 7 (.slice A n c) rfl rfl (by kernel_rfl) (by kernel_rfl) (by kernel_rfl) (fun _ _ _ h => h) (fun w _ => by go_simp) hS ?_
    refine hd_take 8 (.int .i64 (k : Int)) rfl rfl (by kernel_rfl) (by kernel_rfl) (by kernel_rfl) (fun _ _ _ h => h) (fun w _ => by go_simp) hS ?_
    simp only [List.getElem_toArray, List.getElem_cons_succ, List.getElem_cons_zero, Act.put, List.setIfInBounds_toArray, List.set_cons_zero, List.set_cons_succ]
    refine hd_take 5 (.int .i64 ((i : Int) - (k : Int))) rfl rfl (by kernel_rfl) (by kernel_rfl) (by kernel_rfl) (fun _ _ _ h => h) (fun w _ => by go_simp; rw [IntKind.wrap_i64]; omega) hS ?_
    refine hd_take 2 (.slice (dropK A k c) (n - k) (c - k)) rfl rfl (by kernel_rfl) (by kernel_rfl) (by kernel_rfl) (fun _ _ _ h => h) (fun w _ => by go_simp) hS ?_
    refine hd_take 9 (.slice A k c) rfl rfl (by kernel_rfl) (by kernel_rfl) (by kernel_rfl) (fun _ _ _ h => h) (fun w _ => by go_simp) hS ?_
    simp only [List.getElem_toArray, List.getElem_cons_succ, List.getElem_cons_zero, Act.put, List.setIfInBounds_toArray, List.set_cons_zero, List.set_cons_succ]
    refine hd_calls 6 74 #[.slice (dropK A k c) (n - k) (c - k), .int .i64 ((i : Int) - (k : Int)), .bool false] rfl rfl (by kernel_rfl) (by go_simp) ((HPA.out _ b0.drew).mono ?_)
    rintro e w3 ⟨⟨A3, c3, rfl, ho3⟩, hb3⟩
    have b3 := bel_on b0.drew hb3
    refine ⟨_, rfl, trivial, ?_⟩
    refine hd_calls 10 62 #[.slice A k c] rfl rfl (by kernel_rfl) (by go_simp) ((HRO.out _ b3).mono ?_)
    rintro e w4 ⟨rfl, hb4⟩
    have b4 := bel_on b3 hb4
    have ho4 := ho3.below hb4
    refine ⟨_, rfl, trivial, ?_⟩
    simp only [List.getElem_toArray, List.getElem_cons_succ, List.getElem_cons_zero, Act.put, List.setIfInBounds_toArray, List.set_cons_zero, List.set_cons_succ]
    have ho5 := ho4.below (alloc_bel w4 (.cells (cellsB r).toArray 23))
    have b5 := b4.alloc b4.size (.cells (cellsB r).toArray 23)
    have hsrc := src_key w4 HRL.out
    have hz5 : w.drew.heap.size ≤ (w4.alloc (.cells (cellsB r).toArray 23)).heap.size := b5.size
    refine hd_sole 11 (by kernel_rfl) (op_buildKey r _ HRL.out rfl rfl rfl rfl ⟨trivial, ?_⟩)
    simp only [List.getElem_toArray, List.getElem_cons_succ, List.getElem_cons_zero, Act.put, List.setIfInBounds_toArray, List.set_cons_zero, List.set_cons_succ]
    refine hd_appendK 12 (.tmp 40) (.tmp 45) rfl rfl rfl (by kernel_rfl) w.drew.heap.size A3 m c3 ps HPS.out rfl ho5 _ 1 1 [r] rfl rfl hsrc (by omega) hz5 ?_
    intro A6 c6 w6 ho6 hb6
    refine ⟨trivial, ?_⟩
    simp only [List.getElem_toArray, List.getElem_cons_succ, List.getElem_cons_zero, Act.put, List.setIfInBounds_toArray, List.set_cons_zero, List.set_cons_succ]
    refine hd_take 13 (.slice A6 (m + 1) c6) rfl rfl (by kernel_rfl) (by kernel_rfl) (by kernel_rfl) (fun _ _ _ h => h) (fun w _ => by go_simp) trivial ?_
    refine wpAnyH_done (by kernel_rfl) (NoPanic.normal ?_) _
    simp only [List.getElem_toArray, List.getElem_cons_succ, List.getElem_cons_zero, Act.put, List.setIfInBounds_toArray, List.set_cons_zero, List.set_cons_succ]
    have HO6 := Lib.hid ho6
    have b6 : Below w.heap.size w w6 := b5.trans hb6
    clear ho6
    go_wp2_with fail
    go_ret
    exact ⟨⟨A6, c6, by show _ = Ending.returned (.slice A6 (partS ks i wh).length c6); rw [HPL.out]; rfl, by rw [HPP.out]; exact HO6.out⟩, b6⟩


set_option maxHeartbeats 1000000 in
theorem refPart_end (ks : List (List UInt8)) (wh : Bool) (A : Option Addr) (c : Nat) (w : World) {n : Nat} (hn : ks.length = n) (hbig : n ≤ 1000) (h : KR w A c ks) :
    Calls Try.prog 74 #[.slice A n c, .int .i64 (n : Int), .bool wh] w fun e w' => (∃ A' c', e = .returned (.slice A' (partS ks n wh).length c') ∧ OK16 w.heap.size w' A' c' (partS ks n wh)) ∧ Below w.heap.size w w' := by
  have hp : partS ks n wh = if wh then [] else [rootS ks] := by rw [← hn]; exact partS_end wh
  have hni : (n : Int) ≤ 1000 := by omega
  cases wh with
  | true =>
    rw [hp]
    clear hp hn hbig h
    go_enter Try.func74, Try.ntmps74
    go_wp2_with fail
    go_ret
    exact ⟨⟨none, 0, rfl, OK16.nil _ _⟩, Below.refl _ _⟩
  | false =>
    rw [hp]
    have HRO : Hid (∀ W, Below w.heap.size w W → Calls Try.prog 62 #[.slice A n c] W fun e w' => e = .returned (.agg (cellsB (rootS ks)).toArray) ∧ Below W.heap.size W w') := fun W hW => refRootOf_any n ks _ _ W hn hbig (h.below hW)
    have HRL : Hid ((rootS ks).length = 16) := rootS_length _
    generalize rootS ks = r at HRO HRL
    clear hp hn hbig h
    go_enter Try.func74, Try.ntmps74
    go_wp2_with (first
      | (go_at_call 62; refine (HRO.out _ (Below.refl _ _)).mono ?_; rintro e w1 ⟨rfl, hb1⟩)
      | (refine wpList_buildKey _ rfl r _ HRL.out rfl rfl ?_))
    go_ret
    exact ⟨⟨_, 1, rfl, OK16.lit _ _ r HRL.out hb1.size⟩, hb1.alloc hb1.size _⟩

theorem refPart_any (n : Nat) : ∀ (ks : List (List UInt8)) (i : Nat) (wh : Bool) (A : Option Addr) (c : Nat) (w : World), ks.length = n → 1 ≤ i → i ≤ n → n ≤ 1000 → KR w A c ks → Calls Try.prog 74 #[.slice A n c, .int .i64 (i : Int), .bool wh] w fun e w' => (∃ A' c', e = .returned (.slice A' (partS ks i wh).length c') ∧ OK16 w.heap.size w' A' c' (partS ks i wh)) ∧ Below w.heap.size w w' := by
  induction n using Nat.strongRecOn with
  | _ n ih =>
    intro ks i wh A c w hn hi1 hi hbig h
    by_cases he : i = n
    · subst he
      exact refPart_end ks wh A c w hn hbig h
    · by_cases hk : i ≤ splitS n
      · exact refPart_low (fun m hm ks i wh A c w h1 h2 h3 h4 => ih m hm ks i wh A c w h1 h2 h3 (by omega) h4) ks i wh A c w hn hi1 (by omega) hbig h (by omega) hk
      · exact refPart_high (fun m hm ks i wh A c w h1 h2 h3 h4 => ih m hm ks i wh A c w h1 h2 h3 (by omega) h4) ks i wh A c w hn hi1 (by omega) hbig h (by omega) hk
end Go.Proofs.Ytinpiodfpnbllaa

/- The proof of a leaf: the program's and the reference's; the reference's growth. -/
namespace Go.Proofs.Ytinpiodfpnbllaa
open Go.RowKit
set_option linter.unusedVariables false
set_option linter.unusedSimpArgs false

/-- The cells of a proof, or of a growth. -/
def prC (a b : Int) (A : Option Addr) (n c : Nat) : List Value := [.int .i64 a, .int .i64 b, .slice A n c]
theorem bcell {W w1 : World} (hb : Below W.heap.size W w1) : (∀ b o, b < W.heap.size → w1.cell? ⟨b, o, none⟩ = W.cell? ⟨b, o, none⟩) ∧ (∀ b o, b < W.heap.size → w1.frozen? ⟨b, o, none⟩ = W.frozen? ⟨b, o, none⟩) :=
  ⟨fun b o h => hb.cell (p := ⟨b, o, none⟩) h, fun b o h => hb.frozen (p := ⟨b, o, none⟩) h⟩
theorem OK16.set_low {B : Nat} {w : World} {A : Option Addr} {c : Nat} {ks : List (List UInt8)} (h : OK16 B w A c ks) (p : Addr) (u : Value) (hp : p.block < B) : OK16 B (w.setCell p u) A c ks := by
  refine ⟨h.1, h.2.elim Or.inl fun ⟨g, cap, cur, hv, hg, hh, r⟩ => Or.inr ⟨g, cap, cur, hv, hg, ?_, r⟩⟩
  exact (Below.heap_setCell w p u g (by omega)).trans hh
/-- What is returned: a proof or a growth, with an error. -/
def PrEnd (B : Nat) (a b : Int) (P : List (List UInt8)) (e0 : Int) (e : Ending) (w' : World) : Prop := ∃ A c, e = .returned (.tuple #[.agg (prC a b A P.length c).toArray, .int .i64 e0]) ∧ OK16 B w' A c P
structure PrV where
  a : Int
  b : Int
  P : List (List UInt8)
  e : Int
def proveS (ks : List (List UInt8)) (i : Int) : PrV := if 128 < ks.length then ⟨0, 0, [], 4⟩ else if i < 0 ∨ (ks.length : Int) ≤ i then ⟨0, 0, [], 2⟩ else ⟨ks.length, i, pathS ks i.toNat, 0⟩
def growthS (ks : List (List UInt8)) (i : Int) : PrV := if 128 < ks.length then ⟨0, 0, [], 4⟩ else if i < 1 ∨ (ks.length : Int) < i then ⟨0, 0, [], 2⟩ else ⟨i, ks.length, partS ks i.toNat true, 0⟩

set_option maxHeartbeats 1000000 in
theorem proof_any (ks : List (List UInt8)) (i : Nat) (A : Option Addr) (c : Nat) (w : World) {n : Nat} (hn : ks.length = n) (hi : i < n) (hbig : n ≤ 1000) (h : KR w A c ks) :
    Calls Try.prog 70 #[.slice A n c, .int .i64 (i : Int)] w fun e w' => (∃ A' c', e = .returned (.agg (prC n i A' (pathS ks i).length c').toArray) ∧ OK16 w.heap.size w' A' c' (pathS ks i)) ∧ Below w.heap.size w w' := by
  have hni : (n : Int) ≤ 1000 := by omega
  have b0 := alloc_bel w (.cells #[.int .i64 0, .int .i64 0, .slice none 0 0] 52)
  have HP : Hid (∀ W, Below w.heap.size w W → Calls Try.prog 130 #[.slice A n c, .int .i64 (i : Int)] W fun e w' => (∃ A' c', e = .returned (.slice A' (pathS ks i).length c') ∧ OK16 W.heap.size w' A' c' (pathS ks i)) ∧ Below W.heap.size W w') := fun W hW => prove_any ks i A c W hn hi hbig (h.below hW)
  generalize pathS ks i = P at HP ⊢
  generalize P.length = m at HP ⊢
  clear hn hi hbig h
  go_enter Try.func70, Try.ntmps70
  go_wp2_with (go_at_call 130; refine (HP.out _ b0).mono ?_; rintro e w1 ⟨⟨A1, c1, rfl, ho1⟩, hb1⟩; have b1 := Lib.hid (bel_on b0 hb1); have HO := Lib.hid ho1; have hz := hb1.size; obtain ⟨hc, hf⟩ := bcell hb1; clear ho1 hb1)
  have hlt : w.heap.size < w1.heap.size := by simp at hz; omega
  refine bodyPost_ret (v := .agg #[.int .i64 (n : Int), .int .i64 (i : Int), .slice A1 m c1]) (by simp [results, Try.f70, go_sem, hc, hf, hlt]) rfl ⟨⟨A1, c1, rfl, (((HO.out.set_low _ _ (by simp)).set_low _ _ (by simp)).set_low _ _ (by simp)).le_ (by simp)⟩, ?_⟩
  exact ((b1.out.setCell (by simp) _).setCell (by simp) _).setCell (by simp) _

set_option maxHeartbeats 1000000 in
theorem refProofOf_any (ks : List (List UInt8)) (i : Nat) (A : Option Addr) (c : Nat) (w : World) {n : Nat} (hn : ks.length = n) (hi : i < n) (hbig : n ≤ 1000) (h : KR w A c ks) :
    Calls Try.prog 71 #[.slice A n c, .int .i64 (i : Int)] w fun e w' => (∃ A' c', e = .returned (.agg (prC n i A' (pathS ks i).length c').toArray) ∧ OK16 w.heap.size w' A' c' (pathS ks i)) ∧ Below w.heap.size w w' := by
  have hni : (n : Int) ≤ 1000 := by omega
  have b0 := alloc_bel w (.cells #[.int .i64 0, .int .i64 0, .slice none 0 0] 52)
  have HP : Hid (∀ W, Below w.heap.size w W → Calls Try.prog 131 #[.slice A n c, .int .i64 (i : Int)] W fun e w' => (∃ A' c', e = .returned (.slice A' (pathS ks i).length c') ∧ OK16 W.heap.size w' A' c' (pathS ks i)) ∧ Below W.heap.size W w') := fun W hW => refPath_any n ks i A c W hn hi hbig (h.below hW)
  generalize pathS ks i = P at HP ⊢
  generalize P.length = m at HP ⊢
  clear hn hi hbig h
  go_enter Try.func71, Try.ntmps71
  go_wp2_with (go_at_call 131; refine (HP.out _ b0).mono ?_; rintro e w1 ⟨⟨A1, c1, rfl, ho1⟩, hb1⟩; have b1 := Lib.hid (bel_on b0 hb1); have HO := Lib.hid ho1; have hz := hb1.size; obtain ⟨hc, hf⟩ := bcell hb1; clear ho1 hb1)
  have hlt : w.heap.size < w1.heap.size := by simp at hz; omega
  refine bodyPost_ret (v := .agg #[.int .i64 (n : Int), .int .i64 (i : Int), .slice A1 m c1]) (by simp [results, Try.f71, go_sem, hc, hf, hlt]) rfl ⟨⟨A1, c1, rfl, (((HO.out.set_low _ _ (by simp)).set_low _ _ (by simp)).set_low _ _ (by simp)).le_ (by simp)⟩, ?_⟩
  exact ((b1.out.setCell (by simp) _).setCell (by simp) _).setCell (by simp) _

set_option maxHeartbeats 1000000 in
theorem Prove_any (ks : List (List UInt8)) (i : Int) (A : Option Addr) (c : Nat) (w : World) {n : Nat} (hn : ks.length = n) (h : KR w A c ks) :
    Calls Try.prog 20 #[.slice A n c, .int .i64 i] w fun e w' => PrEnd w.heap.size (proveS ks i).a (proveS ks i).b (proveS ks i).P (proveS ks i).e e w' ∧ Below w.heap.size w w' := by
  have hnl : (n : Int) ≤ 140737488351232 := by have := h.len; omega
  have b0 := alloc_bel w (.cells #[.int .i64 0, .int .i64 0, .slice none 0 0] 52)
  rcases (by omega : 128 < n ∨ (n ≤ 128 ∧ i < 0) ∨ (n ≤ 128 ∧ 0 ≤ i ∧ (n : Int) ≤ i) ∨ (n ≤ 128 ∧ 0 ≤ i ∧ i < (n : Int))) with hw | ⟨hw, hl⟩ | ⟨hw, hl, hh⟩ | ⟨hw, hl, hh⟩
  all_goals have hwi : (n : Int) ≤ 128 ∨ 128 < (n : Int) := by omega
  · have hw2 : 128 < (n : Int) := by omega
    have HS : Hid (proveS ks i = ⟨0, 0, [], 4⟩) := by unfold Hid proveS; rw [if_pos (by omega)]
    clear hn h hw hwi
    go_enter Try.func20, Try.ntmps20
    go_wp2
    exact bodyPost_ret (v := .tuple #[.agg #[.int .i64 0, .int .i64 0, .slice none 0 0], .int .i64 4]) (by simp [results, Try.f20, go_sem]) rfl ⟨⟨none, 0, by rw [HS.out]; rfl, by rw [HS.out]; exact OK16.nil _ _⟩, b0⟩
  · have hw2 : (n : Int) ≤ 128 := by omega
    have HS : Hid (proveS ks i = ⟨0, 0, [], 2⟩) := by unfold Hid proveS; rw [if_neg (by omega), if_pos (by omega)]
    clear hn h hw hwi
    go_enter Try.func20, Try.ntmps20
    go_wp2
    exact bodyPost_ret (v := .tuple #[.agg #[.int .i64 0, .int .i64 0, .slice none 0 0], .int .i64 2]) (by simp [results, Try.f20, go_sem]) rfl ⟨⟨none, 0, by rw [HS.out]; rfl, by rw [HS.out]; exact OK16.nil _ _⟩, b0⟩
  · have hw2 : (n : Int) ≤ 128 := by omega
    have HS : Hid (proveS ks i = ⟨0, 0, [], 2⟩) := by unfold Hid proveS; rw [if_neg (by omega), if_pos (by omega)]
    clear hn h hw hwi
    go_enter Try.func20, Try.ntmps20
    go_wp2
    exact bodyPost_ret (v := .tuple #[.agg #[.int .i64 0, .int .i64 0, .slice none 0 0], .int .i64 2]) (by simp [results, Try.f20, go_sem]) rfl ⟨⟨none, 0, by rw [HS.out]; rfl, by rw [HS.out]; exact OK16.nil _ _⟩, b0⟩
  · have hw2 : (n : Int) ≤ 128 := by omega
    have HS : Hid (proveS ks i = ⟨n, i, pathS ks i.toNat, 0⟩) := by unfold Hid proveS; rw [if_neg (by omega), if_neg (by omega), hn]
    obtain ⟨j, rfl⟩ : ∃ j : Nat, i = (j : Int) := ⟨i.toNat, by omega⟩
    rw [Int.toNat_natCast] at HS
    have HP : Hid (∀ W, Below w.heap.size w W → Calls Try.prog 70 #[.slice A n c, .int .i64 (j : Int)] W fun e w' => (∃ A' c', e = .returned (.agg #[.int .i64 (n : Int), .int .i64 (j : Int), .slice A' (pathS ks j).length c']) ∧ OK16 W.heap.size w' A' c' (pathS ks j)) ∧ Below W.heap.size W w') := fun W hW => proof_any ks j A c W hn (by omega) (by omega) (h.below hW)
    generalize pathS ks j = P at HP HS
    obtain ⟨m, hm⟩ : ∃ m, P.length = m := ⟨_, rfl⟩
    rw [hm] at HP
    have HM := Lib.hid hm
    clear hn h hw hwi hm
    go_enter Try.func20, Try.ntmps20
    go_wp2_with (go_at_call 70; refine (HP.out _ b0).mono ?_; rintro e w1 ⟨⟨A1, c1, rfl, ho1⟩, hb1⟩; have b1 := Lib.hid (bel_on b0 hb1); have HO := Lib.hid ho1; have hz := hb1.size; obtain ⟨hc, hf⟩ := bcell hb1; clear ho1 hb1)
    have hlt : w.heap.size < w1.heap.size := by simp at hz; omega
    refine bodyPost_ret (v := .tuple #[.agg #[.int .i64 (n : Int), .int .i64 (j : Int), .slice A1 m c1], .int .i64 0]) (by simp [results, Try.f20, go_sem, hc, hf, hlt]) rfl ⟨⟨A1, c1, by rw [HS.out]; show _ = Ending.returned (.tuple #[.agg #[.int .i64 (n : Int), .int .i64 (j : Int), .slice A1 P.length c1], .int .i64 0]); rw [HM.out], by rw [HS.out]; exact (((HO.out.set_low _ _ (by simp)).set_low _ _ (by simp)).set_low _ _ (by simp)).le_ (by simp)⟩, ?_⟩
    exact ((b1.out.setCell (by simp) _).setCell (by simp) _).setCell (by simp) _

set_option maxHeartbeats 1000000 in
theorem refProve_any (ks : List (List UInt8)) (i : Int) (A : Option Addr) (c : Nat) (w : World) {n : Nat} (hn : ks.length = n) (h : KR w A c ks) :
    Calls Try.prog 21 #[.slice A n c, .int .i64 i] w fun e w' => PrEnd w.heap.size (proveS ks i).a (proveS ks i).b (proveS ks i).P (proveS ks i).e e w' ∧ Below w.heap.size w w' := by
  have hnl : (n : Int) ≤ 140737488351232 := by have := h.len; omega
  have b0 := alloc_bel w (.cells #[.int .i64 0, .int .i64 0, .slice none 0 0] 52)
  rcases (by omega : 128 < n ∨ (n ≤ 128 ∧ i < 0) ∨ (n ≤ 128 ∧ 0 ≤ i ∧ (n : Int) ≤ i) ∨ (n ≤ 128 ∧ 0 ≤ i ∧ i < (n : Int))) with hw | ⟨hw, hl⟩ | ⟨hw, hl, hh⟩ | ⟨hw, hl, hh⟩
  all_goals have hwi : (n : Int) ≤ 128 ∨ 128 < (n : Int) := by omega
  · have hw2 : 128 < (n : Int) := by omega
    have HS : Hid (proveS ks i = ⟨0, 0, [], 4⟩) := by unfold Hid proveS; rw [if_pos (by omega)]
    clear hn h hw hwi
    go_enter Try.func21, Try.ntmps21
    go_wp2
    exact bodyPost_ret (v := .tuple #[.agg #[.int .i64 0, .int .i64 0, .slice none 0 0], .int .i64 4]) (by simp [results, Try.f21, go_sem]) rfl ⟨⟨none, 0, by rw [HS.out]; rfl, by rw [HS.out]; exact OK16.nil _ _⟩, b0⟩
  · have hw2 : (n : Int) ≤ 128 := by omega
    have HS : Hid (proveS ks i = ⟨0, 0, [], 2⟩) := by unfold Hid proveS; rw [if_neg (by omega), if_pos (by omega)]
    clear hn h hw hwi
    go_enter Try.func21, Try.ntmps21
    go_wp2
    exact bodyPost_ret (v := .tuple #[.agg #[.int .i64 0, .int .i64 0, .slice none 0 0], .int .i64 2]) (by simp [results, Try.f21, go_sem]) rfl ⟨⟨none, 0, by rw [HS.out]; rfl, by rw [HS.out]; exact OK16.nil _ _⟩, b0⟩
  · have hw2 : (n : Int) ≤ 128 := by omega
    have HS : Hid (proveS ks i = ⟨0, 0, [], 2⟩) := by unfold Hid proveS; rw [if_neg (by omega), if_pos (by omega)]
    clear hn h hw hwi
    go_enter Try.func21, Try.ntmps21
    go_wp2
    exact bodyPost_ret (v := .tuple #[.agg #[.int .i64 0, .int .i64 0, .slice none 0 0], .int .i64 2]) (by simp [results, Try.f21, go_sem]) rfl ⟨⟨none, 0, by rw [HS.out]; rfl, by rw [HS.out]; exact OK16.nil _ _⟩, b0⟩
  · have hw2 : (n : Int) ≤ 128 := by omega
    have HS : Hid (proveS ks i = ⟨n, i, pathS ks i.toNat, 0⟩) := by unfold Hid proveS; rw [if_neg (by omega), if_neg (by omega), hn]
    obtain ⟨j, rfl⟩ : ∃ j : Nat, i = (j : Int) := ⟨i.toNat, by omega⟩
    rw [Int.toNat_natCast] at HS
    have HP : Hid (∀ W, Below w.heap.size w W → Calls Try.prog 71 #[.slice A n c, .int .i64 (j : Int)] W fun e w' => (∃ A' c', e = .returned (.agg #[.int .i64 (n : Int), .int .i64 (j : Int), .slice A' (pathS ks j).length c']) ∧ OK16 W.heap.size w' A' c' (pathS ks j)) ∧ Below W.heap.size W w') := fun W hW => refProofOf_any ks j A c W hn (by omega) (by omega) (h.below hW)
    generalize pathS ks j = P at HP HS
    obtain ⟨m, hm⟩ : ∃ m, P.length = m := ⟨_, rfl⟩
    rw [hm] at HP
    have HM := Lib.hid hm
    clear hn h hw hwi hm
    go_enter Try.func21, Try.ntmps21
    go_wp2_with (go_at_call 71; refine (HP.out _ b0).mono ?_; rintro e w1 ⟨⟨A1, c1, rfl, ho1⟩, hb1⟩; have b1 := Lib.hid (bel_on b0 hb1); have HO := Lib.hid ho1; have hz := hb1.size; obtain ⟨hc, hf⟩ := bcell hb1; clear ho1 hb1)
    have hlt : w.heap.size < w1.heap.size := by simp at hz; omega
    refine bodyPost_ret (v := .tuple #[.agg #[.int .i64 (n : Int), .int .i64 (j : Int), .slice A1 m c1], .int .i64 0]) (by simp [results, Try.f21, go_sem, hc, hf, hlt]) rfl ⟨⟨A1, c1, by rw [HS.out]; show _ = Ending.returned (.tuple #[.agg #[.int .i64 (n : Int), .int .i64 (j : Int), .slice A1 P.length c1], .int .i64 0]); rw [HM.out], by rw [HS.out]; exact (((HO.out.set_low _ _ (by simp)).set_low _ _ (by simp)).set_low _ _ (by simp)).le_ (by simp)⟩, ?_⟩
    exact ((b1.out.setCell (by simp) _).setCell (by simp) _).setCell (by simp) _

set_option maxHeartbeats 1000000 in
theorem refProveGrowth_any (ks : List (List UInt8)) (i : Int) (A : Option Addr) (c : Nat) (w : World) {n : Nat} (hn : ks.length = n) (h : KR w A c ks) :
    Calls Try.prog 24 #[.slice A n c, .int .i64 i] w fun e w' => PrEnd w.heap.size (growthS ks i).a (growthS ks i).b (growthS ks i).P (growthS ks i).e e w' ∧ Below w.heap.size w w' := by
  have hnl : (n : Int) ≤ 140737488351232 := by have := h.len; omega
  have b0 := alloc_bel w (.cells #[.int .i64 0, .int .i64 0, .slice none 0 0] 59)
  rcases (by omega : 128 < n ∨ (n ≤ 128 ∧ i < 1) ∨ (n ≤ 128 ∧ 1 ≤ i ∧ (n : Int) < i) ∨ (n ≤ 128 ∧ 1 ≤ i ∧ i ≤ (n : Int))) with hw | ⟨hw, hl⟩ | ⟨hw, hl, hh⟩ | ⟨hw, hl, hh⟩
  all_goals have hwi : (n : Int) ≤ 128 ∨ 128 < (n : Int) := by omega
  · have hw2 : 128 < (n : Int) := by omega
    have HS : Hid (growthS ks i = ⟨0, 0, [], 4⟩) := by unfold Hid growthS; rw [if_pos (by omega)]
    clear hn h hw hwi
    go_enter Try.func24, Try.ntmps24
    go_wp2
    exact bodyPost_ret (v := .tuple #[.agg #[.int .i64 0, .int .i64 0, .slice none 0 0], .int .i64 4]) (by simp [results, Try.f24, go_sem]) rfl ⟨⟨none, 0, by rw [HS.out]; rfl, by rw [HS.out]; exact OK16.nil _ _⟩, b0⟩
  · have hw2 : (n : Int) ≤ 128 := by omega
    have HS : Hid (growthS ks i = ⟨0, 0, [], 2⟩) := by unfold Hid growthS; rw [if_neg (by omega), if_pos (by omega)]
    clear hn h hw hwi
    go_enter Try.func24, Try.ntmps24
    go_wp2
    exact bodyPost_ret (v := .tuple #[.agg #[.int .i64 0, .int .i64 0, .slice none 0 0], .int .i64 2]) (by simp [results, Try.f24, go_sem]) rfl ⟨⟨none, 0, by rw [HS.out]; rfl, by rw [HS.out]; exact OK16.nil _ _⟩, b0⟩
  · have hw2 : (n : Int) ≤ 128 := by omega
    have HS : Hid (growthS ks i = ⟨0, 0, [], 2⟩) := by unfold Hid growthS; rw [if_neg (by omega), if_pos (by omega)]
    clear hn h hw hwi
    go_enter Try.func24, Try.ntmps24
    go_wp2
    exact bodyPost_ret (v := .tuple #[.agg #[.int .i64 0, .int .i64 0, .slice none 0 0], .int .i64 2]) (by simp [results, Try.f24, go_sem]) rfl ⟨⟨none, 0, by rw [HS.out]; rfl, by rw [HS.out]; exact OK16.nil _ _⟩, b0⟩
  · have hw2 : (n : Int) ≤ 128 := by omega
    have HS : Hid (growthS ks i = ⟨i, n, partS ks i.toNat true, 0⟩) := by unfold Hid growthS; rw [if_neg (by omega), if_neg (by omega), hn]
    obtain ⟨j, rfl⟩ : ∃ j : Nat, i = (j : Int) := ⟨i.toNat, by omega⟩
    rw [Int.toNat_natCast] at HS
    have HP : Hid (∀ W, Below w.heap.size w W → Calls Try.prog 74 #[.slice A n c, .int .i64 (j : Int), .bool true] W fun e w' => (∃ A' c', e = .returned (.slice A' (partS ks j true).length c') ∧ OK16 W.heap.size w' A' c' (partS ks j true)) ∧ Below W.heap.size W w') := fun W hW => refPart_any n ks j true A c W hn (by omega) (by omega) (by omega) (h.below hW)
    generalize partS ks j true = P at HP HS
    obtain ⟨m, hm⟩ : ∃ m, P.length = m := ⟨_, rfl⟩
    rw [hm] at HP
    have HM := Lib.hid hm
    clear hn h hw hwi hm
    go_enter Try.func24, Try.ntmps24
    go_wp2_with (go_at_call 74; refine (HP.out _ b0).mono ?_; rintro e w1 ⟨⟨A1, c1, rfl, ho1⟩, hb1⟩; have b1 := Lib.hid (bel_on b0 hb1); have HO := Lib.hid ho1; have hz := hb1.size; obtain ⟨hc, hf⟩ := bcell hb1; clear ho1 hb1)
    have hlt : w.heap.size < w1.heap.size := by simp at hz; omega
    refine bodyPost_ret (v := .tuple #[.agg #[.int .i64 (j : Int), .int .i64 (n : Int), .slice A1 m c1], .int .i64 0]) (by simp [results, Try.f24, go_sem, hc, hf, hlt]) rfl ⟨⟨A1, c1, by rw [HS.out]; show _ = Ending.returned (.tuple #[.agg #[.int .i64 (j : Int), .int .i64 (n : Int), .slice A1 P.length c1], .int .i64 0]); rw [HM.out], by rw [HS.out]; exact (((HO.out.set_low _ _ (by simp)).set_low _ _ (by simp)).set_low _ _ (by simp)).le_ (by simp)⟩, ?_⟩
    exact ((b1.out.setCell (by simp) _).setCell (by simp) _).setCell (by simp) _
end Go.Proofs.Ytinpiodfpnbllaa
