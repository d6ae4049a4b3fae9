/-
  Lemmas and contracts, joined.
-/
import Derived.Test.YtinpiodfpnbllaaGreatDoorAuE1
import Derived.Test.YtinpiodfpnbllaaGreatDoorAuK1
import Derived.Test.YtinpiodfpnbllaaGreatDoorAuG1
set_option linter.unusedSimpArgs false
set_option linter.unusedVariables false
set_option linter.unnecessarySimpa false
/- The law AuditBound: the walk. -/
namespace Go.Proofs.YtinpiodfpnbllaaGreatDoor
open Go.RowKit
set_option linter.unusedVariables false
set_option linter.unusedSimpArgs false
attribute [local go_sem] equalIn_keys

set_option maxHeartbeats 4000000 in
set_option maxRecDepth 100000 in
theorem bound_early (l : List (List UInt8)) (A : Option Addr) (c : Nat) (leaf : List UInt8) (a b : Int) (P : Option Addr) (d : Nat) (ps : List (List UInt8)) (w : World) {n m : Nat} (hn : l.length = n) (hm : ps.length = m) (h : KR w A c l) (hlf : leaf.length = 16) (hp : KR w P d ps) (HA : Hid (∀ W, Below w.heap.size w W → Calls Tryz.prog 25 #[] W fun e w' => e = .returned (.bool true) ∧ Below W.heap.size W w')) (hbad : n < 1 ∨ 128 < n ∨ ¬ a = (n : Int)) :
    Calls Tryz.prog 9 #[.slice A n c, .agg (cellsB leaf).toArray, .agg #[.int .i64 a, .int .i64 b, .slice P m d]] w fun e w' => e = .returned (.bool true) ∧ Below w.heap.size w w' := by
  have hnl : (n : Int) ≤ 140737488351232 := by have := h.len; omega
  obtain ⟨W0, hW0⟩ : ∃ W, W = (w.alloc (.cells (cellsB leaf).toArray 24)).alloc (.cells #[.int .i64 a, .int .i64 b, .slice P m d] 27) := ⟨_, rfl⟩
  have D0 : Hid (Below w.heap.size w W0) := by unfold Hid; rw [hW0]; exact alloc2_bel w _ _
  have K0 : Hid (Blk W0 w.heap.size 24 (cellsB leaf).toArray) := by unfold Hid; rw [hW0]; exact blk_b0 w _ _ _
  have Q0 : Hid (Blk W0 (w.heap.size + 1) 27 #[.int .i64 a, .int .i64 b, .slice P m d]) := by unfold Hid; rw [hW0]; exact blk_b1 w _ _ _
  have HW0 := Lib.hid hW0
  have HKL := Lib.hid hlf
  have hb3 : (n : Int) < 1 ∨ 128 < (n : Int) ∨ ¬ a = (n : Int) := by omega
  clear hW0 hn hm h hlf hp hbad
  rcases hb3 with hb4 | hb4 | hb4
  · go_enter Tryz.func9, Tryz.ntmps9
    go_wp2_with (go_at_call 25; rw [← HW0.out]; (with_reducible refine (HA.out _ D0.out).mono ?_); rintro e w1 ⟨rfl, hb⟩; have D1 := Lib.hid (bel_on D0.out hb); have K1 := Lib.hid (K0.out.below' hb); have Q1 := Lib.hid (Q0.out.below' hb); have c10 : w1.cell? ⟨w.heap.size + 1, 0, none⟩ = some (.int .i64 a) := Q1.out.cell 0; have c11 : w1.cell? ⟨w.heap.size + 1, 1, none⟩ = some (.int .i64 b) := Q1.out.cell 1; clear hb)
    all_goals first | omega | (go_ret; exact ⟨rfl, D1.out⟩)
  · go_enter Tryz.func9, Tryz.ntmps9
    go_wp2_with (go_at_call 25; rw [← HW0.out]; (with_reducible refine (HA.out _ D0.out).mono ?_); rintro e w1 ⟨rfl, hb⟩; have D1 := Lib.hid (bel_on D0.out hb); have K1 := Lib.hid (K0.out.below' hb); have Q1 := Lib.hid (Q0.out.below' hb); have c10 : w1.cell? ⟨w.heap.size + 1, 0, none⟩ = some (.int .i64 a) := Q1.out.cell 0; have c11 : w1.cell? ⟨w.heap.size + 1, 1, none⟩ = some (.int .i64 b) := Q1.out.cell 1; clear hb)
    all_goals first | omega | (go_ret; exact ⟨rfl, D1.out⟩)
  · have hb5 : (a != (n : Int)) = true := by simpa using hb4
    go_enter Tryz.func9, Tryz.ntmps9
    go_wp2_with (go_at_call 25; rw [← HW0.out]; (with_reducible refine (HA.out _ D0.out).mono ?_); rintro e w1 ⟨rfl, hb⟩; have D1 := Lib.hid (bel_on D0.out hb); have K1 := Lib.hid (K0.out.below' hb); have Q1 := Lib.hid (Q0.out.below' hb); have c10 : w1.cell? ⟨w.heap.size + 1, 0, none⟩ = some (.int .i64 a) := Q1.out.cell 0; have c11 : w1.cell? ⟨w.heap.size + 1, 1, none⟩ = some (.int .i64 b) := Q1.out.cell 1; clear hb)
    all_goals first | omega | (go_ret; exact ⟨rfl, D1.out⟩) | (exfalso; simp_all; omega) | (exfalso; simp_all)

set_option maxHeartbeats 4000000 in
set_option maxRecDepth 100000 in
theorem bound_no (l : List (List UInt8)) (A : Option Addr) (c : Nat) (leaf : List UInt8) (a b : Int) (P : Option Addr) (d : Nat) (ps : List (List UInt8)) (w : World) {n m : Nat} (hn : l.length = n) (hm : ps.length = m) (h : KR w A c l) (hlf : leaf.length = 16) (hp : KR w P d ps) (HA : Hid (∀ W, Below w.heap.size w W → Calls Tryz.prog 25 #[] W fun e w' => e = .returned (.bool true) ∧ Below W.heap.size W w')) (h1 : 1 ≤ n) (h128 : n ≤ 128) (han : a = (n : Int)) (e0 : Int) (he0 : e0 = 0 ∨ e0 = 8) (hver : verS (rootS l) leaf a b ps = (false, e0)) :
    Calls Tryz.prog 9 #[.slice A n c, .agg (cellsB leaf).toArray, .agg #[.int .i64 a, .int .i64 b, .slice P m d]] w fun e w' => e = .returned (.bool true) ∧ Below w.heap.size w w' := by
  subst han
  have HRT : Hid (∀ W, Below w.heap.size w W → Calls Tryz.prog 27 #[.slice A n c] W fun e w' => e = .returned (.tuple #[.agg (cellsB (rootS l)).toArray, .int .i64 0]) ∧ Below W.heap.size W w') := fun W hW => (Root_any l A c W hn (h.below hW)).mono fun e w' hh => by
    have e1 : rtS l = (rootS l, 0) := by unfold rtS; rw [if_neg (by omega)]
    rwa [e1] at hh
  have HRL : Hid ((rootS l).length = 16) := rootS_length _
  have hni : (n : Int) ≤ 128 := by omega
  have hn1 : (1 : Int) ≤ n := by omega
  have HV : Hid (∀ W, Below w.heap.size w W → Calls Tryz.prog 28 #[.agg (cellsB (rootS l)).toArray, .agg (cellsB leaf).toArray, .agg #[.int .i64 (n : Int), .int .i64 b, .slice P m d]] W fun e w' => e = .returned (.tuple #[.bool false, .int .i64 e0]) ∧ Below W.heap.size W w') := fun W hW => by
    have := Verify_any (rootS l) leaf n b ps P d W hm (rootS_length _) hlf (hp.below hW)
    rwa [hver] at this
  have hnl : (n : Int) ≤ 140737488351232 := by have := h.len; omega
  obtain ⟨W0, hW0⟩ : ∃ W, W = (w.alloc (.cells (cellsB leaf).toArray 24)).alloc (.cells #[.int .i64 (n : Int), .int .i64 b, .slice P m d] 27) := ⟨_, rfl⟩
  have D0 : Hid (Below w.heap.size w W0) := by unfold Hid; rw [hW0]; exact alloc2_bel w _ _
  have K0 : Hid (Blk W0 w.heap.size 24 (cellsB leaf).toArray) := by unfold Hid; rw [hW0]; exact blk_b0 w _ _ _
  have Q0 : Hid (Blk W0 (w.heap.size + 1) 27 #[.int .i64 (n : Int), .int .i64 b, .slice P m d]) := by unfold Hid; rw [hW0]; exact blk_b1 w _ _ _
  have HW0 := Lib.hid hW0
  have HKL := Lib.hid hlf
  clear hW0 hn hm h hlf hp h1 h128 hver
  generalize rootS l = R at HRT HV HRL
  go_enter Tryz.func9, Tryz.ntmps9
  go_wp2_with (first
    | (go_at_call 25; rw [← HW0.out]; (with_reducible refine (HA.out _ D0.out).mono ?_); rintro e w1 ⟨rfl, hb⟩; have D1 := Lib.hid (bel_on D0.out hb); have K1 := Lib.hid (K0.out.below' hb); have Q1 := Lib.hid (Q0.out.below' hb); have c10 : w1.cell? ⟨w.heap.size + 1, 0, none⟩ = some (.int .i64 (n : Int)) := Q1.out.cell 0; have c11 : w1.cell? ⟨w.heap.size + 1, 1, none⟩ = some (.int .i64 b) := Q1.out.cell 1; clear hb)
    | (go_at_call 27; (with_reducible refine (HRT.out _ D1.out).mono ?_); rintro e w2 ⟨rfl, hb⟩; have D2 := Lib.hid (bel_on D1.out hb); have K2 := Lib.hid (K1.out.below' hb); have Q2 := Lib.hid (Q1.out.below' hb); clear hb c10 c11)
    | ((first | rw [zero16] | skip); refine wpList_store_row rfl 24 (.tmp 8) (.tmp 34) rfl w2.heap.size (cellsB R).toArray rfl rfl 24 (cellsB zeroK).toArray (Blk.new w2 _ _) (cellsB_size _ HRL.out) (cellsB_sizes _ _ zeroK_length HRL.out) (cellsB_all _) ?_; obtain ⟨w3, hV⟩ : ∃ W, W = (w2.alloc (.cells (cellsB zeroK).toArray 24)).setRow w2.heap.size (cellsB R).toArray := ⟨_, rfl⟩; rw [← hV]; obtain ⟨hb, nb⟩ := keybox2_ _ _ _ _ hV; have D3 := Lib.hid (bel_on D2.out hb); have K3 := Lib.hid (K2.out.below' hb); have Q3 := Lib.hid (Q2.out.below' hb); have R3 := Lib.hid nb; clear hV hb nb)
    | (refine wpList_load_row rfl 24 (.tmp 8) rfl w2.heap.size rfl 24 (cellsB R).toArray (0, 0) _ R3.out under_key rfl (cellsB_size _ HRL.out) ?_)
    | (refine wpList_load_row rfl 24 (.tmp 4) rfl w.heap.size rfl 24 (cellsB leaf).toArray (0, 0) _ K3.out under_key rfl (cellsB_size _ HKL.out) ?_)
    | (refine wpList_load_row rfl 27 (.tmp 5) rfl (w.heap.size + 1) rfl 27 #[.int .i64 (n : Int), .int .i64 b, .slice P m d] (0, 0) _ Q3.out Tryz.underlying27 rfl (by kernel_rfl) ?_)
    | (go_at_call 28; (with_reducible refine (HV.out _ D3.out).mono ?_); rintro e w4 ⟨rfl, hb⟩; have D4 := Lib.hid (bel_on D3.out hb); have K4 := Lib.hid (K3.out.below' hb); have Q4 := Lib.hid (Q3.out.below' hb); have R4 := Lib.hid (R3.out.below' hb); have c40 : w4.cell? ⟨w.heap.size + 1, 0, none⟩ = some (.int .i64 (n : Int)) := Q4.out.cell 0; have c41 : w4.cell? ⟨w.heap.size + 1, 1, none⟩ = some (.int .i64 b) := Q4.out.cell 1; clear hb))
  all_goals (rcases he0 with rfl | rfl <;> first | omega | (go_ret; exact ⟨rfl, D4.out⟩))

set_option maxHeartbeats 8000000 in
set_option maxRecDepth 100000 in
theorem bound_same (l : List (List UInt8)) (A : Option Addr) (c : Nat) (leaf : List UInt8) (a b : Int) (P : Option Addr) (d : Nat) (ps : List (List UInt8)) (w : World) {n m : Nat} (hn : l.length = n) (hm : ps.length = m) (h : KR w A c l) (hlf : leaf.length = 16) (hp : KR w P d ps) (HA : Hid (∀ W, Below w.heap.size w W → Calls Tryz.prog 25 #[] W fun e w' => e = .returned (.bool true) ∧ Below W.heap.size W w')) (h1 : 1 ≤ n) (h128 : n ≤ 128) (han : a = (n : Int)) (j : Nat) (hbj : b = (j : Int)) (hj : j < n) (hver : verS (rootS l) leaf a b ps = (true, 0)) (heq : l.getD j [] = leaf) :
    Calls Tryz.prog 9 #[.slice A n c, .agg (cellsB leaf).toArray, .agg #[.int .i64 a, .int .i64 b, .slice P m d]] w fun e w' => e = .returned (.bool true) ∧ Below w.heap.size w w' := by
  subst han hbj
  have HRT : Hid (∀ W, Below w.heap.size w W → Calls Tryz.prog 27 #[.slice A n c] W fun e w' => e = .returned (.tuple #[.agg (cellsB (rootS l)).toArray, .int .i64 0]) ∧ Below W.heap.size W w') := fun W hW => (Root_any l A c W hn (h.below hW)).mono fun e w' hh => by
    have e1 : rtS l = (rootS l, 0) := by unfold rtS; rw [if_neg (by omega)]
    rwa [e1] at hh
  have HRL : Hid ((rootS l).length = 16) := rootS_length _
  have hni : (n : Int) ≤ 128 := by omega
  have hn1 : (1 : Int) ≤ n := by omega
  have HV : Hid (∀ W, Below w.heap.size w W → Calls Tryz.prog 28 #[.agg (cellsB (rootS l)).toArray, .agg (cellsB leaf).toArray, .agg #[.int .i64 (n : Int), .int .i64 (j : Int), .slice P m d]] W fun e w' => e = .returned (.tuple #[.bool true, .int .i64 0]) ∧ Below W.heap.size W w') := fun W hW => by
    have := Verify_any (rootS l) leaf n j ps P d W hm (rootS_length _) hlf (hp.below hW)
    rwa [hver] at this
  have hjn : (j : Int) < n := by omega
  have hj0 : (0 : Int) ≤ j := by omega
  obtain ⟨ab, ao, rfl, hab, hrow⟩ := h.at_ (i := j) (by omega)
  have hlj : l[j]'(by omega) = l.getD j [] := by rw [List.getD_eq_getElem?_getD, List.getElem?_eq_getElem (by omega)]; rfl
  rw [hlj] at hrow
  have HG16 : Hid ((l.getD j []).length = 16) := by unfold Hid; rw [← hlj]; exact h.2 _ (List.getElem_mem _)
  have HR1 : Hid (∀ W, Below w.heap.size w W → W.rangeAt ab (ao + j * 16) (cellsB (l.getD j []))) := fun W hW => range_below hrow hW
  have hnl : (n : Int) ≤ 140737488351232 := by have := h.len; omega
  obtain ⟨W0, hW0⟩ : ∃ W, W = (w.alloc (.cells (cellsB leaf).toArray 24)).alloc (.cells #[.int .i64 (n : Int), .int .i64 (j : Int), .slice P m d] 27) := ⟨_, rfl⟩
  have D0 : Hid (Below w.heap.size w W0) := by unfold Hid; rw [hW0]; exact alloc2_bel w _ _
  have K0 : Hid (Blk W0 w.heap.size 24 (cellsB leaf).toArray) := by unfold Hid; rw [hW0]; exact blk_b0 w _ _ _
  have Q0 : Hid (Blk W0 (w.heap.size + 1) 27 #[.int .i64 (n : Int), .int .i64 (j : Int), .slice P m d]) := by unfold Hid; rw [hW0]; exact blk_b1 w _ _ _
  have HW0 := Lib.hid hW0
  have HKL := Lib.hid hlf
  have HEQ : Hid ((l.getD j [] == leaf) = true) := by unfold Hid; rw [heq]; exact beq_self_eq_true _
  clear hW0 hn hm h hlf hp h1 h128 hver hrow hlj hab heq
  generalize rootS l = R at HRT HV HRL
  generalize l.getD j [] = g at HG16 HR1 HEQ
  go_enter Tryz.func9, Tryz.ntmps9
  go_wp2_with (first
    | (go_at_call 25; rw [← HW0.out]; (with_reducible refine (HA.out _ D0.out).mono ?_); rintro e w1 ⟨rfl, hb⟩; have D1 := Lib.hid (bel_on D0.out hb); have K1 := Lib.hid (K0.out.below' hb); have Q1 := Lib.hid (Q0.out.below' hb); have c10 : w1.cell? ⟨w.heap.size + 1, 0, none⟩ = some (.int .i64 (n : Int)) := Q1.out.cell 0; have c11 : w1.cell? ⟨w.heap.size + 1, 1, none⟩ = some (.int .i64 (j : Int)) := Q1.out.cell 1; clear hb)
    | (go_at_call 27; (with_reducible refine (HRT.out _ D1.out).mono ?_); rintro e w2 ⟨rfl, hb⟩; have D2 := Lib.hid (bel_on D1.out hb); have K2 := Lib.hid (K1.out.below' hb); have Q2 := Lib.hid (Q1.out.below' hb); clear hb c10 c11)
    | ((first | rw [zero16] | skip); refine wpList_store_row rfl 24 (.tmp 8) (.tmp 34) rfl w2.heap.size (cellsB R).toArray rfl rfl 24 (cellsB zeroK).toArray (Blk.new w2 _ _) (cellsB_size _ HRL.out) (cellsB_sizes _ _ zeroK_length HRL.out) (cellsB_all _) ?_; obtain ⟨w3, hV⟩ : ∃ W, W = (w2.alloc (.cells (cellsB zeroK).toArray 24)).setRow w2.heap.size (cellsB R).toArray := ⟨_, rfl⟩; rw [← hV]; obtain ⟨hb, nb⟩ := keybox2_ _ _ _ _ hV; have D3 := Lib.hid (bel_on D2.out hb); have K3 := Lib.hid (K2.out.below' hb); have Q3 := Lib.hid (Q2.out.below' hb); have R3 := Lib.hid nb; clear hV hb nb)
    | (refine wpList_load_row rfl 24 (.tmp 8) rfl w2.heap.size rfl 24 (cellsB R).toArray (0, 0) _ R3.out under_key rfl (cellsB_size _ HRL.out) ?_)
    | (refine wpList_load_row rfl 24 (.tmp 4) rfl w.heap.size rfl 24 (cellsB leaf).toArray (0, 0) _ K3.out under_key rfl (cellsB_size _ HKL.out) ?_)
    | (refine wpList_load_row rfl 27 (.tmp 5) rfl (w.heap.size + 1) rfl 27 #[.int .i64 (n : Int), .int .i64 (j : Int), .slice P m d] (0, 0) _ Q3.out Tryz.underlying27 rfl (by kernel_rfl) ?_)
    | (go_at_call 28; (with_reducible refine (HV.out _ D3.out).mono ?_); rintro e w4 ⟨rfl, hb⟩; have D4 := Lib.hid (bel_on D3.out hb); have K4 := Lib.hid (K3.out.below' hb); have Q4 := Lib.hid (Q3.out.below' hb); have R4 := Lib.hid (R3.out.below' hb); have c40 : w4.cell? ⟨w.heap.size + 1, 0, none⟩ = some (.int .i64 (n : Int)) := Q4.out.cell 0; have c41 : w4.cell? ⟨w.heap.size + 1, 1, none⟩ = some (.int .i64 (j : Int)) := Q4.out.cell 1; clear hb))
  have HS : Hid (∀ W, Below w4.heap.size w4 W → W.rangeAt ab (ao + j * 16) (cellsB g) ∧ W.rangeAt w.heap.size 0 (cellsB leaf) ∧ W.cell? ⟨w.heap.size + 1, 1, none⟩ = some (.int .i64 (j : Int))) := fun W hW => ⟨HR1.out _ (bel_on D4.out hW), (K4.out.below' hW).range, (Q4.out.below' hW).cell 1⟩
  have E0 : Below w4.heap.size w4 w4 := Below.refl _ _
  refine wp_region_noPanic ?_
  refine wp_region_held_drew (S := fun W => W.rangeAt ab (ao + j * 16) (cellsB g) ∧ W.rangeAt w.heap.size 0 (cellsB leaf) ∧ W.cell? ⟨w.heap.size + 1, 1, none⟩ = some (.int .i64 (j : Int))) (by kernel_rfl) (HS.out _ E0.drew) (fun hS => ?_)
  have E0 := E0.drew
  refine hd_take 0 (_) rfl rfl (by kernel_rfl) (by kernel_rfl) (by kernel_rfl) (fun _ _ _ h => h) (fun w hw => by go_simp <;> rfl) hS ?_
  simp only [List.getElem_toArray, List.getElem_cons_succ, List.getElem_cons_zero, Act.put, List.setIfInBounds_toArray, List.set_cons_zero, List.set_cons_succ]
  refine hd_take 1 (_) rfl rfl (by kernel_rfl) (by kernel_rfl) (by kernel_rfl) (fun _ _ _ h => h) (fun w hw => by go_simp <;> rfl) hS ?_
  simp only [List.getElem_toArray, List.getElem_cons_succ, List.getElem_cons_zero, Act.put, List.setIfInBounds_toArray, List.set_cons_zero, List.set_cons_succ]
  refine hd_take 2 (.int .i64 (j : Int)) rfl rfl (by kernel_rfl) (by kernel_rfl) (by kernel_rfl) (fun _ _ _ h => h) (fun w hw => by have hx := hw.2.2; simp [go_sem, hx]) hS ?_
  simp only [List.getElem_toArray, List.getElem_cons_succ, List.getElem_cons_zero, Act.put, List.setIfInBounds_toArray, List.set_cons_zero, List.set_cons_succ]
  refine hd_take 3 (_) rfl rfl (by kernel_rfl) (by kernel_rfl) (by kernel_rfl) (fun _ _ _ h => h) (fun w hw => by go_simp <;> rfl) hS ?_
  simp only [List.getElem_toArray, List.getElem_cons_succ, List.getElem_cons_zero, Act.put, List.setIfInBounds_toArray, List.set_cons_zero, List.set_cons_succ]
  refine hd_load 4 (ab) (ao + j * 16) (cellsB g) _ _ rfl rfl rfl (by kernel_rfl) (by kernel_rfl) (by kernel_rfl) (fun _ _ _ h => h) rfl (fun w hw => hw.1) under_key rfl (key_info HG16.out) hS ?_
  simp only [List.getElem_toArray, List.getElem_cons_succ, List.getElem_cons_zero, Act.put, List.setIfInBounds_toArray, List.set_cons_zero, List.set_cons_succ]
  refine hd_load 5 (w.heap.size) (0) (cellsB leaf) _ _ rfl rfl rfl (by kernel_rfl) (by kernel_rfl) (by kernel_rfl) (fun _ _ _ h => h) rfl (fun w hw => hw.2.1) under_key rfl (key_info HKL.out) hS ?_
  simp only [List.getElem_toArray, List.getElem_cons_succ, List.getElem_cons_zero, Act.put, List.setIfInBounds_toArray, List.set_cons_zero, List.set_cons_succ]
  refine hd_take 6 (.bool true) rfl rfl (by kernel_rfl) (by kernel_rfl) (by kernel_rfl) (fun _ _ _ h => h) (fun w hw => by have hx := equalIn_keys w g leaf HG16 HKL; simp [go_sem, hx, HEQ.out]) hS ?_
  simp only [List.getElem_toArray, List.getElem_cons_succ, List.getElem_cons_zero, Act.put, List.setIfInBounds_toArray, List.set_cons_zero, List.set_cons_succ]
  refine wpAnyH_done (by kernel_rfl) (NoPanic.normal ?_) _
  have E4 := Lib.hid (bel_on D4.out E0)
  have K5 := Lib.hid (K4.out.below' E0)
  have Q5 := Lib.hid (Q4.out.below' E0)
  clear hS HS E0
  go_wp2_with fail
  go_ret
  exact ⟨rfl, E4.out⟩

set_option maxHeartbeats 8000000 in
set_option maxRecDepth 100000 in
theorem bound_clash (l : List (List UInt8)) (A : Option Addr) (c : Nat) (leaf : List UInt8) (a b : Int) (P : Option Addr) (d : Nat) (ps : List (List UInt8)) (w : World) {n m : Nat} (hn : l.length = n) (hm : ps.length = m) (h : KR w A c l) (hlf : leaf.length = 16) (hp : KR w P d ps) (HA : Hid (∀ W, Below w.heap.size w W → Calls Tryz.prog 25 #[] W fun e w' => e = .returned (.bool true) ∧ Below W.heap.size W w')) (h1 : 1 ≤ n) (h128 : n ≤ 128) (han : a = (n : Int)) (j : Nat) (hbj : b = (j : Int)) (hj : j < n) (hver : verS (rootS l) leaf a b ps = (true, 0)) (hne : ¬ l.getD j [] = leaf) (hC : Clash (textsS l ++ (climbS leaf n j ps).2)) :
    Calls Tryz.prog 9 #[.slice A n c, .agg (cellsB leaf).toArray, .agg #[.int .i64 a, .int .i64 b, .slice P m d]] w fun e w' => e = .returned (.bool true) ∧ Below w.heap.size w w' := by
  subst han hbj
  have HRT : Hid (∀ W, Below w.heap.size w W → Calls Tryz.prog 27 #[.slice A n c] W fun e w' => e = .returned (.tuple #[.agg (cellsB (rootS l)).toArray, .int .i64 0]) ∧ Below W.heap.size W w') := fun W hW => (Root_any l A c W hn (h.below hW)).mono fun e w' hh => by
    have e1 : rtS l = (rootS l, 0) := by unfold rtS; rw [if_neg (by omega)]
    rwa [e1] at hh
  have HRL : Hid ((rootS l).length = 16) := rootS_length _
  have hni : (n : Int) ≤ 128 := by omega
  have hn1 : (1 : Int) ≤ n := by omega
  have HV : Hid (∀ W, Below w.heap.size w W → Calls Tryz.prog 28 #[.agg (cellsB (rootS l)).toArray, .agg (cellsB leaf).toArray, .agg #[.int .i64 (n : Int), .int .i64 (j : Int), .slice P m d]] W fun e w' => e = .returned (.tuple #[.bool true, .int .i64 0]) ∧ Below W.heap.size W w') := fun W hW => by
    have := Verify_any (rootS l) leaf n j ps P d W hm (rootS_length _) hlf (hp.below hW)
    rwa [hver] at this
  have hjn : (j : Int) < n := by omega
  have hj0 : (0 : Int) ≤ j := by omega
  obtain ⟨ab, ao, rfl, hab, hrow⟩ := h.at_ (i := j) (by omega)
  have hlj : l[j]'(by omega) = l.getD j [] := by rw [List.getD_eq_getElem?_getD, List.getElem?_eq_getElem (by omega)]; rfl
  rw [hlj] at hrow
  have HG16 : Hid ((l.getD j []).length = 16) := by unfold Hid; rw [← hlj]; exact h.2 _ (List.getElem_mem _)
  have HR1 : Hid (∀ W, Below w.heap.size w W → W.rangeAt ab (ao + j * 16) (cellsB (l.getD j []))) := fun W hW => range_below hrow hW
  have hnl : (n : Int) ≤ 140737488351232 := by have := h.len; omega
  obtain ⟨W0, hW0⟩ : ∃ W, W = (w.alloc (.cells (cellsB leaf).toArray 24)).alloc (.cells #[.int .i64 (n : Int), .int .i64 (j : Int), .slice P m d] 27) := ⟨_, rfl⟩
  have D0 : Hid (Below w.heap.size w W0) := by unfold Hid; rw [hW0]; exact alloc2_bel w _ _
  have K0 : Hid (Blk W0 w.heap.size 24 (cellsB leaf).toArray) := by unfold Hid; rw [hW0]; exact blk_b0 w _ _ _
  have Q0 : Hid (Blk W0 (w.heap.size + 1) 27 #[.int .i64 (n : Int), .int .i64 (j : Int), .slice P m d]) := by unfold Hid; rw [hW0]; exact blk_b1 w _ _ _
  have HW0 := Lib.hid hW0
  have HKL := Lib.hid hlf
  have HEQ : Hid ((l.getD j [] == leaf) = false) := by unfold Hid; simpa using hne
  have hfit : fitsB (n : Int) (j : Int) ps.length = true := by
    apply Classical.byContradiction
    intro hx
    unfold verS at hver
    rw [if_neg hx] at hver
    injection hver with h1 h2
    cases h1
  have HTX : Hid (∀ W, Below w.heap.size w W → Calls Tryz.prog 40 #[.slice (some ⟨ab, ao, none⟩) n c] W fun e w' => (∃ X x n1 rs, e = .returned (.tuple #[.slice X n1 x, .int .i64 0]) ∧ rs.length = n1 ∧ rs.map BRow.l = textsS l ∧ RR w' X x rs) ∧ Below W.heap.size W w') := fun W hW => (Texts_any l _ c W hn (h.below hW)).mono fun e w' ⟨⟨X, x, rs, he, hr, hx⟩, hb⟩ => by
    have e1 : textsR l = (textsS l, 0) := by unfold textsR; rw [if_neg (by omega)]
    rw [e1] at he hr
    exact ⟨⟨X, x, _, rs, he, rfl, hr, hx⟩, hb⟩
  have HPT : Hid (∀ W, Below w.heap.size w W → Calls Tryz.prog 41 #[.agg (cellsB leaf).toArray, .agg #[.int .i64 (n : Int), .int .i64 (j : Int), .slice P m d]] W fun e w' => (∃ X x n1 rs, e = .returned (.tuple #[.slice X n1 x, .int .i64 0]) ∧ rs.length = n1 ∧ rs.map BRow.l = (climbS leaf n j ps).2 ∧ RR w' X x rs) ∧ Below W.heap.size W w') := fun W hW => (PathTexts_any leaf n j ps P d W hm hlf (hp.below hW)).mono fun e w' ⟨⟨X, x, rs, he, hr, hx⟩, hb⟩ => by
    have e1 : ptS leaf (n : Int) (j : Int) ps = ((climbS leaf n j ps).2, 0) := by unfold ptS; rw [if_pos hfit, Int.toNat_natCast, Int.toNat_natCast]
    rw [e1] at he hr
    exact ⟨⟨X, x, _, rs, he, rfl, hr, hx⟩, hb⟩
  have b1 := textsS_le n l hn h1
  have b2 := climbS_le leaf n j ps h1
  have s1 := textsS_short n l hn h.2
  have s2 := climbS_short leaf hlf n j ps hp.2
  have HCL : Hid (∀ X1 x1 rs1 n1 X2 x2 rs2 n2 W, rs1.length = n1 → rs2.length = n2 → rs1.map BRow.l = textsS l → rs2.map BRow.l = (climbS leaf n j ps).2 → RR W X1 x1 rs1 → RR W X2 x2 rs2 → Calls Tryz.prog 39 #[.slice (some ⟨W.heap.size, 0, none⟩) 2 2] (W.alloc (.cells #[.slice X1 n1 x1, .slice X2 n2 x2] 71)) fun e w' => e = .returned (.bool true) ∧ Below W.heap.size W w') := fun X1 x1 rs1 n1 X2 x2 rs2 n2 W l1 l2 t1 t2 r1 r2 => by
    have k1 : rs1.length = (textsS l).length := by rw [← t1, List.length_map]
    have k2 : rs2.length = (climbS leaf n j ps).2.length := by rw [← t2, List.length_map]
    exact clash2_any X1 x1 rs1 X2 x2 rs2 W l1 l2 r1 r2 (by omega) (by omega) (by rw [t1]; intro t ht; have := s1 t ht; omega) (by rw [t2]; intro t ht; have := s2 t ht; omega) (by rw [t1, t2]; exact hC)
  clear hW0 hn hm h hlf hp h1 h128 hver hrow hlj hab hne hC hfit b1 b2 s1 s2
  generalize rootS l = R at HRT HV HRL
  generalize l.getD j [] = g at HG16 HR1 HEQ
  generalize textsS l = tx1 at HTX HCL
  generalize (climbS leaf n j ps).2 = tx2 at HPT HCL
  go_enter Tryz.func9, Tryz.ntmps9
  go_wp2_with (first
    | (go_at_call 25; rw [← HW0.out]; (with_reducible refine (HA.out _ D0.out).mono ?_); rintro e w1 ⟨rfl, hb⟩; have D1 := Lib.hid (bel_on D0.out hb); have K1 := Lib.hid (K0.out.below' hb); have Q1 := Lib.hid (Q0.out.below' hb); have c10 : w1.cell? ⟨w.heap.size + 1, 0, none⟩ = some (.int .i64 (n : Int)) := Q1.out.cell 0; have c11 : w1.cell? ⟨w.heap.size + 1, 1, none⟩ = some (.int .i64 (j : Int)) := Q1.out.cell 1; clear hb)
    | (go_at_call 27; (with_reducible refine (HRT.out _ D1.out).mono ?_); rintro e w2 ⟨rfl, hb⟩; have D2 := Lib.hid (bel_on D1.out hb); have K2 := Lib.hid (K1.out.below' hb); have Q2 := Lib.hid (Q1.out.below' hb); clear hb c10 c11)
    | ((first | rw [zero16] | skip); refine wpList_store_row rfl 24 (.tmp 8) (.tmp 34) rfl w2.heap.size (cellsB R).toArray rfl rfl 24 (cellsB zeroK).toArray (Blk.new w2 _ _) (cellsB_size _ HRL.out) (cellsB_sizes _ _ zeroK_length HRL.out) (cellsB_all _) ?_; obtain ⟨w3, hV⟩ : ∃ W, W = (w2.alloc (.cells (cellsB zeroK).toArray 24)).setRow w2.heap.size (cellsB R).toArray := ⟨_, rfl⟩; rw [← hV]; obtain ⟨hb, nb⟩ := keybox2_ _ _ _ _ hV; have D3 := Lib.hid (bel_on D2.out hb); have K3 := Lib.hid (K2.out.below' hb); have Q3 := Lib.hid (Q2.out.below' hb); have R3 := Lib.hid nb; clear hV hb nb)
    | (refine wpList_load_row rfl 24 (.tmp 8) rfl w2.heap.size rfl 24 (cellsB R).toArray (0, 0) _ R3.out under_key rfl (cellsB_size _ HRL.out) ?_)
    | (refine wpList_load_row rfl 24 (.tmp 4) rfl w.heap.size rfl 24 (cellsB leaf).toArray (0, 0) _ K3.out under_key rfl (cellsB_size _ HKL.out) ?_)
    | (refine wpList_load_row rfl 27 (.tmp 5) rfl (w.heap.size + 1) rfl 27 #[.int .i64 (n : Int), .int .i64 (j : Int), .slice P m d] (0, 0) _ Q3.out Tryz.underlying27 rfl (by kernel_rfl) ?_)
    | (go_at_call 28; (with_reducible refine (HV.out _ D3.out).mono ?_); rintro e w4 ⟨rfl, hb⟩; have D4 := Lib.hid (bel_on D3.out hb); have K4 := Lib.hid (K3.out.below' hb); have Q4 := Lib.hid (Q3.out.below' hb); have R4 := Lib.hid (R3.out.below' hb); have c40 : w4.cell? ⟨w.heap.size + 1, 0, none⟩ = some (.int .i64 (n : Int)) := Q4.out.cell 0; have c41 : w4.cell? ⟨w.heap.size + 1, 1, none⟩ = some (.int .i64 (j : Int)) := Q4.out.cell 1; clear hb))
  have HS : Hid (∀ W, Below w4.heap.size w4 W → W.rangeAt ab (ao + j * 16) (cellsB g) ∧ W.rangeAt w.heap.size 0 (cellsB leaf) ∧ W.cell? ⟨w.heap.size + 1, 1, none⟩ = some (.int .i64 (j : Int))) := fun W hW => ⟨HR1.out _ (bel_on D4.out hW), (K4.out.below' hW).range, (Q4.out.below' hW).cell 1⟩
  have E0 : Below w4.heap.size w4 w4 := Below.refl _ _
  refine wp_region_noPanic ?_
  refine wp_region_held_drew (S := fun W => W.rangeAt ab (ao + j * 16) (cellsB g) ∧ W.rangeAt w.heap.size 0 (cellsB leaf) ∧ W.cell? ⟨w.heap.size + 1, 1, none⟩ = some (.int .i64 (j : Int))) (by kernel_rfl) (HS.out _ E0.drew) (fun hS => ?_)
  have E0 := E0.drew
  refine hd_take 0 (_) rfl rfl (by kernel_rfl) (by kernel_rfl) (by kernel_rfl) (fun _ _ _ h => h) (fun w hw => by go_simp <;> rfl) hS ?_
  simp only [List.getElem_toArray, List.getElem_cons_succ, List.getElem_cons_zero, Act.put, List.setIfInBounds_toArray, List.set_cons_zero, List.set_cons_succ]
  refine hd_take 1 (_) rfl rfl (by kernel_rfl) (by kernel_rfl) (by kernel_rfl) (fun _ _ _ h => h) (fun w hw => by go_simp <;> rfl) hS ?_
  simp only [List.getElem_toArray, List.getElem_cons_succ, List.getElem_cons_zero, Act.put, List.setIfInBounds_toArray, List.set_cons_zero, List.set_cons_succ]
  refine hd_take 2 (.int .i64 (j : Int)) rfl rfl (by kernel_rfl) (by kernel_rfl) (by kernel_rfl) (fun _ _ _ h => h) (fun w hw => by have hx := hw.2.2; simp [go_sem, hx]) hS ?_
  simp only [List.getElem_toArray, List.getElem_cons_succ, List.getElem_cons_zero, Act.put, List.setIfInBounds_toArray, List.set_cons_zero, List.set_cons_succ]
  refine hd_take 3 (_) rfl rfl (by kernel_rfl) (by kernel_rfl) (by kernel_rfl) (fun _ _ _ h => h) (fun w hw => by go_simp <;> rfl) hS ?_
  simp only [List.getElem_toArray, List.getElem_cons_succ, List.getElem_cons_zero, Act.put, List.setIfInBounds_toArray, List.set_cons_zero, List.set_cons_succ]
  refine hd_load 4 (ab) (ao + j * 16) (cellsB g) _ _ rfl rfl rfl (by kernel_rfl) (by kernel_rfl) (by kernel_rfl) (fun _ _ _ h => h) rfl (fun w hw => hw.1) under_key rfl (key_info HG16.out) hS ?_
  simp only [List.getElem_toArray, List.getElem_cons_succ, List.getElem_cons_zero, Act.put, List.setIfInBounds_toArray, List.set_cons_zero, List.set_cons_succ]
  refine hd_load 5 (w.heap.size) (0) (cellsB leaf) _ _ rfl rfl rfl (by kernel_rfl) (by kernel_rfl) (by kernel_rfl) (fun _ _ _ h => h) rfl (fun w hw => hw.2.1) under_key rfl (key_info HKL.out) hS ?_
  simp only [List.getElem_toArray, List.getElem_cons_succ, List.getElem_cons_zero, Act.put, List.setIfInBounds_toArray, List.set_cons_zero, List.set_cons_succ]
  refine hd_take 6 (.bool false) rfl rfl (by kernel_rfl) (by kernel_rfl) (by kernel_rfl) (fun _ _ _ h => h) (fun w hw => by have hx := equalIn_keys w g leaf HG16 HKL; simp [go_sem, hx, HEQ.out]) hS ?_
  simp only [List.getElem_toArray, List.getElem_cons_succ, List.getElem_cons_zero, Act.put, List.setIfInBounds_toArray, List.set_cons_zero, List.set_cons_succ]
  refine wpAnyH_done (by kernel_rfl) (NoPanic.normal ?_) _
  have E4 := Lib.hid (bel_on D4.out E0)
  have K5 := Lib.hid (K4.out.below' E0)
  have Q5 := Lib.hid (Q4.out.below' E0)
  clear hS HS E0
  go_wp2_with (first
    | (go_at_call 40; (with_reducible refine (HTX.out _ E4.out).mono ?_); rintro e w6 ⟨⟨X1, x1, n1, rs1, rfl, l1, t1, r1⟩, hb⟩; have D6 := Lib.hid (bel_on E4.out hb); have K6 := Lib.hid (K5.out.below' hb); have Q6 := Lib.hid (Q5.out.below' hb); have L1 := Lib.hid l1; have T1 := Lib.hid t1; have RR1 := Lib.hid r1; clear hb l1 t1 r1)
    | (refine wpList_load_row rfl 24 (.tmp 4) rfl w.heap.size rfl 24 (cellsB leaf).toArray (0, 0) _ K6.out under_key rfl (cellsB_size _ HKL.out) ?_)
    | (refine wpList_load_row rfl 27 (.tmp 5) rfl (w.heap.size + 1) rfl 27 #[.int .i64 (n : Int), .int .i64 (j : Int), .slice P m d] (0, 0) _ Q6.out Tryz.underlying27 rfl (by kernel_rfl) ?_)
    | (go_at_call 41; (with_reducible refine (HPT.out _ D6.out).mono ?_); rintro e w7 ⟨⟨X2, x2, n2, rs2, rfl, l2, t2, r2⟩, hb⟩; have D7 := Lib.hid (bel_on D6.out hb); have RR2 := Lib.hid (RR1.out.on hb); have L2 := Lib.hid l2; have T2 := Lib.hid t2; have RR3 := Lib.hid r2; clear hb l2 t2 r2)
    | (go_at_call 39; (with_reducible refine (HCL.out _ _ _ _ _ _ _ _ _ L1.out L2.out T1.out T2.out RR2.out RR3.out).mono ?_); rintro e w8 ⟨rfl, hb⟩; have D8 := Lib.hid (bel_on D7.out hb); clear hb))
  go_ret
  exact ⟨rfl, D8.out⟩
theorem auditBound_walk (A : Option Addr) (c : Nat) (l : List (List UInt8)) (leaf : List UInt8) (a b : Int) (P : Option Addr) (d : Nat) (ps : List (List UInt8)) (w : World) (h : KR w A c l) (hc : c * 16 ≤ 140737488351232) (hlf : leaf.length = 16) (hp : KR w P d ps) (hT : TestsIn w) :
    Calls Tryz.prog 9 #[.slice A l.length c, .agg (cellsB leaf).toArray, .agg #[.int .i64 a, .int .i64 b, .slice P ps.length d]] w fun e w' => e = .returned (.bool true) ∧ Below w.heap.size w w' := by
  have HA : Hid (∀ W, Below w.heap.size w W → Calls Tryz.prog 25 #[] W fun e w' => e = .returned (.bool true) ∧ Below W.heap.size W w') := fun W hW => alive_any W (range_below hT hW)
  by_cases hbad : l.length < 1 ∨ 128 < l.length ∨ ¬ a = (l.length : Int)
  · exact bound_early l A c leaf a b P d ps w rfl rfl h hlf hp HA hbad
  · by_cases hfit : fitsB a b ps.length = true
    · obtain ⟨⟨f1, f2, f3, f4⟩, f5⟩ := fitsB_iff.1 hfit
      obtain ⟨j, rfl⟩ : ∃ j : Nat, b = (j : Int) := ⟨b.toNat, by omega⟩
      obtain rfl : a = (l.length : Int) := Classical.byContradiction fun hx => hbad (.inr (.inr hx))
      rw [Int.toNat_natCast, Int.toNat_natCast] at f5
      by_cases hr : (climbS leaf l.length j ps).1 = rootS l
      · have hver : verS (rootS l) leaf (l.length : Int) (j : Int) ps = (true, 0) := by unfold verS; rw [if_pos hfit, Int.toNat_natCast, Int.toNat_natCast, hr, beq_self_eq_true]
        by_cases heq : l.getD j [] = leaf
        · exact bound_same l A c leaf _ _ P d ps w rfl rfl h hlf hp HA (by omega) (by omega) rfl j rfl (by omega) hver heq
        · rcases climb_true l.length l leaf j ps rfl (by omega) f5 hp.2 hr with h1 | h1
          · exact absurd h1 heq
          · exact bound_clash l A c leaf _ _ P d ps w rfl rfl h hlf hp HA (by omega) (by omega) rfl j rfl (by omega) hver heq h1
      · have hver : verS (rootS l) leaf (l.length : Int) (j : Int) ps = (false, 0) := by
          unfold verS
          rw [if_pos hfit, Int.toNat_natCast, Int.toNat_natCast]
          have : ((climbS leaf l.length j ps).1 == rootS l) = false := by simpa using hr
          rw [this]
        exact bound_no l A c leaf _ _ P d ps w rfl rfl h hlf hp HA (by omega) (by omega) rfl 0 (.inl rfl) hver
    · have hver : verS (rootS l) leaf a b ps = (false, 8) := by unfold verS; rw [if_neg hfit]
      exact bound_no l A c leaf a b P d ps w rfl rfl h hlf hp HA (by omega) (by omega) (by omega) 8 (.inr rfl) hver
end Go.Proofs.YtinpiodfpnbllaaGreatDoor
