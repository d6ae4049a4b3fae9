/-
  Lemmas and contracts, joined.
-/
import Derived.Laws.ResultCell
import Derived.Test.YtinpiodfpnbllaaGreatDoorAuB4
import Derived.Test.YtinpiodfpnbllaaGreatDoorAuB1
import Derived.Test.YtinpiodfpnbllaaGreatDoorAuB2
import Derived.Test.YtinpiodfpnbllaaGreatDoorAuC1
import Derived.Test.YtinpiodfpnbllaaGreatDoorAuB5
import Derived.Test.YtinpiodfpnbllaaGreatDoorAuC3
set_option linter.unusedSimpArgs false
set_option linter.unusedVariables false
set_option linter.unnecessarySimpa false
/- The examples that each of the laws asks first. -/
namespace Go.Proofs.YtinpiodfpnbllaaGreatDoor
open Go.RowKit
set_option linter.unusedVariables false
set_option linter.unusedSimpArgs false
attribute [local go_sem] equalIn_keys

section
variable {P : Program} {md : Region.Mode} {ops : Array Oper} {Q : Exit → Act → World → Prop} {S : World → Prop} {fuel : Nat} {listed : Array Bool} {a : Act} {w : World}
theorem hg_run (i : Nat) {oi : Oper} (v : Value) (w' : World) (hi : ops[i]? = some oi) (hg : Region.wanted oi (yielded ops a.tmps) = true) (hr : Region.ready md ops listed = [i]) (hrun : (execOp a.eval oi).run P w = .ok (.value v) w') (hS : S w')
    (h : wpAnyH P md ops Q S fuel (listed.setIfInBounds i true) (a.put oi.dst v) w') : wpAnyH P md ops Q S (fuel + 1) listed a w := by
  refine wpAnyH_all hr (by simp) fun j hj => ?_
  rw [List.mem_singleton] at hj
  subst hj
  unfold wpOp
  simp only [hi, hg, if_true]
  refine .inl ?_
  unfold Oper.wp
  rw [hrun]
  exact ⟨hS, h⟩
end

set_option maxHeartbeats 8000000 in
set_option maxRecDepth 100000 in
theorem alive_in (TI : World → Prop) (w : World) (a b c R X Y T : List UInt8) (Ls : List (List UInt8)) (Ms : List Ent) (hLs : Ls = [a, b, c]) (Vs : Array Value) (d1 d2 p q : List Nat) (N1 N2 Np Nq : Nat)
    (HaL : Hid (a.length = 16)) (HbL : Hid (b.length = 16)) (HcL : Hid (c.length = 16)) (HRL : Hid (R.length = 16)) (HXL : Hid (X.length = 16)) (HYL : Hid (Y.length = 16))
    (ea : (#[.int .u8 1, .int .u8 0, .int .u8 0, .int .u8 0, .int .u8 0, .int .u8 0, .int .u8 0, .int .u8 0, .int .u8 0, .int .u8 0, .int .u8 0, .int .u8 0, .int .u8 0, .int .u8 0, .int .u8 0, .int .u8 0] : Array Value) = (cellsB a).toArray) (eb : (#[.int .u8 2, .int .u8 0, .int .u8 0, .int .u8 0, .int .u8 0, .int .u8 0, .int .u8 0, .int .u8 0, .int .u8 0, .int .u8 0, .int .u8 0, .int .u8 0, .int .u8 0, .int .u8 0, .int .u8 0, .int .u8 0] : Array Value) = (cellsB b).toArray) (ec : (#[.int .u8 3, .int .u8 0, .int .u8 0, .int .u8 0, .int .u8 0, .int .u8 0, .int .u8 0, .int .u8 0, .int .u8 0, .int .u8 0, .int .u8 0, .int .u8 0, .int .u8 0, .int .u8 0, .int .u8 0, .int .u8 0] : Array Value) = (cellsB c).toArray)
    (H1 : Hid (∀ W g, KR W (some ⟨g, 0, none⟩) 3 Ls → Calls Tryz.prog 27 #[.slice (some ⟨g, 0, none⟩) 3 3] W fun e w' => e = .returned (.tuple #[.agg (cellsB R).toArray, .int .i64 0]) ∧ Below W.heap.size W w'))
    (H2 : Hid (∀ W g, KR W (some ⟨g, 0, none⟩) 3 Ls → Calls Tryz.prog 27 #[.slice (some ⟨g, 0, none⟩) 2 3] W fun e w' => e = .returned (.tuple #[.agg (cellsB X).toArray, .int .i64 0]) ∧ Below W.heap.size W w'))
    (H3 : Hid (∀ W g, KR W (some ⟨g, 0, none⟩) 3 Ls → Calls Tryz.prog 27 #[.slice (some ⟨g, 32, none⟩) 1 1] W fun e w' => e = .returned (.tuple #[.agg (cellsB Y).toArray, .int .i64 0]) ∧ Below W.heap.size W w'))
    (H4 : Hid (∀ W g, KR W (some ⟨g, 0, none⟩) 3 Ls → Calls Tryz.prog 26 #[.slice (some ⟨g, 0, none⟩) 3 3, .int .i64 2] W fun e w' => (∃ pb po pc, e = .returned (.tuple #[.agg #[.int .i64 3, .int .i64 2, .slice (some ⟨pb, po, none⟩) 1 pc], .int .i64 0]) ∧ KR w' (some ⟨pb, po, none⟩) pc [X]) ∧ Below W.heap.size W w'))
    (H5 : Hid (∀ W pb po pc, KR W (some ⟨pb, po, none⟩) pc [X] → Calls Tryz.prog 28 #[.agg (cellsB R).toArray, .agg (cellsB c).toArray, .agg #[.int .i64 3, .int .i64 2, .slice (some ⟨pb, po, none⟩) 1 pc]] W fun e w' => e = .returned (.tuple #[.bool true, .int .i64 0]) ∧ Below W.heap.size W w'))
    (H6 : Hid (∀ W, Calls Tryz.prog 77 #[.agg (cellsB X).toArray, .agg (cellsB Y).toArray] W fun e w' => (∃ A c, e = .returned (.slice A 33 c) ∧ BR w' A c T) ∧ Below W.heap.size W w'))
    (H7 : Hid (∀ W A c, BR W A c T → Calls Tryz.prog 38 #[.slice A 33 c] W fun e w' => e = .returned (.agg (cellsB R).toArray) ∧ Below W.heap.size W w'))
    (HM : Hid (∀ W, Calls Tryz.prog 59 #[] W fun e w' => (∃ X x, e = .returned (.tuple #[.slice X 3 x, .int .i64 0]) ∧ ER w' X x Ms) ∧ Below W.heap.size W w'))
    (HT : Hid (∀ W, Below w.heap.size w W → TI W))
    (HE3 : Hid (∀ W, TI W → Calls Tryz.prog 60 #[.int .i64 3] W fun e w' => (∃ V, e = .returned V ∧ Calls Tryz.prog 23 #[V] w' fun e w'' => e = .returned (.tuple #[.int .u8 3, .int .i64 0]) ∧ Below w'.heap.size w' w'') ∧ Below W.heap.size W w'))
    (HE4 : Hid (∀ W, TI W → Calls Tryz.prog 60 #[.int .i64 4] W fun e w' => (∃ V, e = .returned V ∧ Calls Tryz.prog 23 #[V] w' fun e w'' => e = .returned (.tuple #[.int .u8 4, .int .i64 0]) ∧ Below w'.heap.size w' w'') ∧ Below W.heap.size W w'))
    (HC : Hid (∀ W, Calls Tryz.prog 20 #[.int .i64 3, .int .i64 2] W fun e w' => ∃ X x Z z, e = .returned (.tuple #[.agg #[.slice X Np x, .slice Z Nq z], .int .i64 0]) ∧ NR w' X x p ∧ NR w' Z z q ∧ Below W.heap.size W w'))
    (HO1 : Hid (∀ W, Calls Tryz.prog 37 #[.int .u64 1] W fun e w' => (∃ A c, e = .returned (.slice A N1 c) ∧ NR w' A c d1) ∧ Below W.heap.size W w'))
    (HO2 : Hid (∀ W, Calls Tryz.prog 37 #[.int .u64 2] W fun e w' => (∃ A c, e = .returned (.slice A N2 c) ∧ NR w' A c d2) ∧ Below W.heap.size W w'))
    (HLO : Hid (∀ W A x B y, NR W A x d1 → NR W B y d2 → Calls Tryz.prog 36 #[.slice A N1 x, .slice B N2 y] W fun e w' => ∃ X x Z z, e = .returned (.agg #[.slice X Np x, .slice Z Nq z]) ∧ NR w' X x p ∧ NR w' Z z q ∧ Below W.heap.size W w'))
    (HSF : Hid (∀ W X x Z z X' x' Z' z', NR W X x p → NR W Z z q → NR W X' x' p → NR W Z' z' q → Calls Tryz.prog 22 #[.agg #[.slice X Np x, .slice Z Nq z], .agg #[.slice X' Np x', .slice Z' Nq z']] W fun e w' => e = .returned (.bool true) ∧ Below W.heap.size W w'))
    (HSE : Hid (∀ W X x Z z, ER W X x Ms → ER W Z z Ms → Calls Tryz.prog 31 #[.slice X 3 x, .slice Z 3 z] W fun e w' => e = .returned (.bool true) ∧ Below W.heap.size W w'))
    (HMs : Hid (∀ W : World, ER (W.alloc (.cells #[.int .i64 1, .int .i64 5, .int .i64 2, .int .i64 9, .int .i64 3, .int .i64 2] 98)) (some ⟨W.heap.size, 0, none⟩) 3 Ms)) :
    Calls Tryz.prog 25 #[] w fun e w' => e = .returned (.bool true) ∧ Below w.heap.size w w' := by
  obtain ⟨W0, hW0⟩ : ∃ W, W = ((w.alloc (.cells #[.int .u8 1, .int .u8 0, .int .u8 0, .int .u8 0, .int .u8 0, .int .u8 0, .int .u8 0, .int .u8 0, .int .u8 0, .int .u8 0, .int .u8 0, .int .u8 0, .int .u8 0, .int .u8 0, .int .u8 0, .int .u8 0] 24)).alloc (.cells #[.int .u8 2, .int .u8 0, .int .u8 0, .int .u8 0, .int .u8 0, .int .u8 0, .int .u8 0, .int .u8 0, .int .u8 0, .int .u8 0, .int .u8 0, .int .u8 0, .int .u8 0, .int .u8 0, .int .u8 0, .int .u8 0] 24)).alloc (.cells #[.int .u8 3, .int .u8 0, .int .u8 0, .int .u8 0, .int .u8 0, .int .u8 0, .int .u8 0, .int .u8 0, .int .u8 0, .int .u8 0, .int .u8 0, .int .u8 0, .int .u8 0, .int .u8 0, .int .u8 0, .int .u8 0] 24) := ⟨_, rfl⟩
  have D0 : Hid (Below w.heap.size w W0) := by unfold Hid; rw [hW0]; exact alloc3_bel w _ _ _
  have A0 : Hid (Blk W0 w.heap.size 24 (cellsB a).toArray) := by unfold Hid; rw [hW0, ← ea]; exact blk_a0 w _ _ _ _
  have B0 : Hid (Blk W0 (w.heap.size + 1) 24 (cellsB b).toArray) := by unfold Hid; rw [hW0, ← eb]; exact blk_a1 w _ _ _ _
  have C0 : Hid (Blk W0 (w.heap.size + 1 + 1) 24 (cellsB c).toArray) := by unfold Hid; rw [hW0, ← ec]; exact blk_a2 w _ _ _ _
  have HLL : Hid (Ls.length = 3) := by rw [hLs]; exact rfl
  have HLK : Hid (Keys16 Ls) := fun k hk => by rw [hLs] at hk; simp only [List.mem_cons, List.not_mem_nil, or_false] at hk; rcases hk with rfl | rfl | rfl; exact HaL.out; exact HbL.out; exact HcL.out
  have HLP : Hid (keyParts Ls 0 = [(0, .agg (cellsB a).toArray), (1, .agg (cellsB b).toArray), (2, .agg (cellsB c).toArray)]) := by rw [hLs]; exact rfl
  have HW0 := Lib.hid hW0
  clear hW0 hLs ea eb ec
  go_enter Tryz.func25, Tryz.ntmps25
  go_wp2_with (first
    | ((first | rw [← HW0.out] | skip); refine wpList_load_row rfl 24 (.tmp 1) rfl (w.heap.size) rfl 24 (cellsB a).toArray (0, 0) _ A0.out under_key rfl (cellsB_size _ HaL.out) ?_)
    | ((first | rw [← HW0.out] | skip); refine wpList_load_row rfl 24 (.tmp 2) rfl (w.heap.size + 1) rfl 24 (cellsB b).toArray (0, 0) _ B0.out under_key rfl (cellsB_size _ HbL.out) ?_)
    | ((first | rw [← HW0.out] | skip); refine wpList_load_row rfl 24 (.tmp 3) rfl (w.heap.size + 1 + 1) rfl 24 (cellsB c).toArray (0, 0) _ C0.out under_key rfl (cellsB_size _ HcL.out) ?_)
    | (refine wpList_build_keys rfl 3 #[(0, .tmp 22), (1, .tmp 23), (2, .tmp 24)] rfl Ls HLK.out HLL.out (by omega) (by omega) (by rw [HLP.out]; kernel_rfl) ?_; obtain ⟨W1, hW1⟩ : ∃ W, W = W0.alloc (.cells (cellsK Ls).toArray 24) := ⟨_, rfl⟩; rw [← hW1]; have gb : Below W0.heap.size W0 W1 := (by rw [hW1]; exact alloc_bel _ _); have D1 := Lib.hid (bel_on D0.out gb); have A1 := Lib.hid (A0.out.below' gb); have B1 := Lib.hid (B0.out.below' gb); have C1 := Lib.hid (C0.out.below' gb); have L1 : Hid (KR W1 (some ⟨W0.heap.size, 0, none⟩) 3 Ls) := (by unfold Hid; rw [hW1]; have q := (OK16.litL _ W0 Ls HLK.out (Nat.le_refl _) (by rw [HLL.out]; omega)).kr HLK.out (by rw [HLL.out]; omega); rw [HLL.out] at q; exact q); clear hW1 gb)
    | (go_at_call 27; (with_reducible refine (H1.out _ _ L1.out).mono ?_); rintro e u3 ⟨rfl, hb⟩; have D2 := Lib.hid (bel_on D1.out hb); have A2 := Lib.hid (A1.out.below' hb); have B2 := Lib.hid (B1.out.below' hb); have C2 := Lib.hid (C1.out.below' hb); have L2 := Lib.hid (L1.out.below hb); clear hb)
    | ((first | rw [zero16] | skip); refine wpList_store_row rfl 24 (.tmp 5) (.tmp 29) rfl u3.heap.size (cellsB R).toArray rfl rfl 24 (cellsB zeroK).toArray (Blk.new u3 _ _) (cellsB_size _ HRL.out) (cellsB_sizes _ _ zeroK_length HRL.out) (cellsB_all _) ?_; obtain ⟨V5, hV⟩ : ∃ W, W = (u3.alloc (.cells (cellsB zeroK).toArray 24)).setRow u3.heap.size (cellsB R).toArray := ⟨_, rfl⟩; rw [← hV]; obtain ⟨gb, nb⟩ := keybox2_ _ _ _ _ hV; have D3 := Lib.hid (bel_on D2.out gb); have A3 := Lib.hid (A2.out.below' gb); have B3 := Lib.hid (B2.out.below' gb); have C3 := Lib.hid (C2.out.below' gb); have L3 := Lib.hid (L2.out.below gb); have R3 := Lib.hid nb; clear hV gb nb)
    | (go_at_call 27; (with_reducible refine (H2.out _ _ L3.out).mono ?_); rintro e u4 ⟨rfl, hb⟩; have D4 := Lib.hid (bel_on D3.out hb); have A4 := Lib.hid (A3.out.below' hb); have B4 := Lib.hid (B3.out.below' hb); have C4 := Lib.hid (C3.out.below' hb); have L4 := Lib.hid (L3.out.below hb); have R4 := Lib.hid (R3.out.below' hb); clear hb)
    | ((first | rw [zero16] | skip); refine wpList_store_row rfl 24 (.tmp 7) (.tmp 35) rfl u4.heap.size (cellsB X).toArray rfl rfl 24 (cellsB zeroK).toArray (Blk.new u4 _ _) (cellsB_size _ HXL.out) (cellsB_sizes _ _ zeroK_length HXL.out) (cellsB_all _) ?_; obtain ⟨V7, hV⟩ : ∃ W, W = (u4.alloc (.cells (cellsB zeroK).toArray 24)).setRow u4.heap.size (cellsB X).toArray := ⟨_, rfl⟩; rw [← hV]; obtain ⟨gb, nb⟩ := keybox2_ _ _ _ _ hV; have D5 := Lib.hid (bel_on D4.out gb); have A5 := Lib.hid (A4.out.below' gb); have B5 := Lib.hid (B4.out.below' gb); have C5 := Lib.hid (C4.out.below' gb); have L5 := Lib.hid (L4.out.below gb); have R5 := Lib.hid (R4.out.below' gb); have X5 := Lib.hid nb; clear hV gb nb)
    | (go_at_call 27; (with_reducible refine (H3.out _ _ L5.out).mono ?_); rintro e u5 ⟨rfl, hb⟩; have D6 := Lib.hid (bel_on D5.out hb); have A6 := Lib.hid (A5.out.below' hb); have B6 := Lib.hid (B5.out.below' hb); have C6 := Lib.hid (C5.out.below' hb); have L6 := Lib.hid (L5.out.below hb); have R6 := Lib.hid (R5.out.below' hb); have X6 := Lib.hid (X5.out.below' hb); clear hb)
    | ((first | rw [zero16] | skip); refine wpList_store_row rfl 24 (.tmp 9) (.tmp 41) rfl u5.heap.size (cellsB Y).toArray rfl rfl 24 (cellsB zeroK).toArray (Blk.new u5 _ _) (cellsB_size _ HYL.out) (cellsB_sizes _ _ zeroK_length HYL.out) (cellsB_all _) ?_; obtain ⟨V9, hV⟩ : ∃ W, W = (u5.alloc (.cells (cellsB zeroK).toArray 24)).setRow u5.heap.size (cellsB Y).toArray := ⟨_, rfl⟩; rw [← hV]; obtain ⟨gb, nb⟩ := keybox2_ _ _ _ _ hV; have D7 := Lib.hid (bel_on D6.out gb); have A7 := Lib.hid (A6.out.below' gb); have B7 := Lib.hid (B6.out.below' gb); have C7 := Lib.hid (C6.out.below' gb); have L7 := Lib.hid (L6.out.below gb); have R7 := Lib.hid (R6.out.below' gb); have X7 := Lib.hid (X6.out.below' gb); have Y7 := Lib.hid nb; clear hV gb nb)
    | (go_at_call 26; (with_reducible refine (H4.out _ _ L7.out).mono ?_); rintro e u6 ⟨⟨pb, po, pc, rfl, hp⟩, hb⟩; have D8 := Lib.hid (bel_on D7.out hb); have A8 := Lib.hid (A7.out.below' hb); have B8 := Lib.hid (B7.out.below' hb); have C8 := Lib.hid (C7.out.below' hb); have L8 := Lib.hid (L7.out.below hb); have R8 := Lib.hid (R7.out.below' hb); have X8 := Lib.hid (X7.out.below' hb); have Y8 := Lib.hid (Y7.out.below' hb); have P8 := Lib.hid hp; clear hb hp)
    | (refine wpList_store_row rfl 27 (.tmp 11) (.tmp 46) rfl u6.heap.size #[.int .i64 3, .int .i64 2, .slice (some ⟨pb, po, none⟩) 1 pc] rfl rfl 27 #[.int .i64 0, .int .i64 0, .slice none 0 0] (Blk.new u6 _ _) (by kernel_rfl) rfl (by simp [Value.oneCell']) ?_; obtain ⟨V11, hV⟩ : ∃ W, W = (u6.alloc (.cells #[.int .i64 0, .int .i64 0, .slice none 0 0] 27)).setRow u6.heap.size #[.int .i64 3, .int .i64 2, .slice (some ⟨pb, po, none⟩) 1 pc] := ⟨_, rfl⟩; rw [← hV]; obtain ⟨gb, nb⟩ := keybox2_ _ _ _ _ hV; have D9 := Lib.hid (bel_on D8.out gb); have A9 := Lib.hid (A8.out.below' gb); have B9 := Lib.hid (B8.out.below' gb); have C9 := Lib.hid (C8.out.below' gb); have L9 := Lib.hid (L8.out.below gb); have R9 := Lib.hid (R8.out.below' gb); have X9 := Lib.hid (X8.out.below' gb); have Y9 := Lib.hid (Y8.out.below' gb); have P9 := Lib.hid (P8.out.below gb); have Q9 := Lib.hid nb; clear hV gb nb)
    | (refine wpList_load_row rfl 24 (.tmp 5) rfl (u3.heap.size) rfl 24 (cellsB R).toArray (0, 0) _ R9.out under_key rfl (cellsB_size _ HRL.out) ?_)
    | (refine wpList_load_row rfl 24 (.tmp 3) rfl (w.heap.size + 1 + 1) rfl 24 (cellsB c).toArray (0, 0) _ C9.out under_key rfl (cellsB_size _ HcL.out) ?_)
    | (refine wpList_load_row rfl 27 (.tmp 11) rfl u6.heap.size rfl 27 #[.int .i64 3, .int .i64 2, .slice (some ⟨pb, po, none⟩) 1 pc] (0, 0) _ Q9.out Tryz.underlying27 rfl (by kernel_rfl) ?_)
    | (go_at_call 28; (with_reducible refine (H5.out _ _ _ _ P9.out).mono ?_); rintro e u8 ⟨rfl, hb⟩; have D10 := Lib.hid (bel_on D9.out hb); have A10 := Lib.hid (A9.out.below' hb); have B10 := Lib.hid (B9.out.below' hb); have C10 := Lib.hid (C9.out.below' hb); have L10 := Lib.hid (L9.out.below hb); have R10 := Lib.hid (R9.out.below' hb); have X10 := Lib.hid (X9.out.below' hb); have Y10 := Lib.hid (Y9.out.below' hb); have P10 := Lib.hid (P9.out.below hb); have Q10 := Lib.hid (Q9.out.below' hb); clear hb))
  have HS : Hid (∀ W, Below u8.heap.size u8 W → W.rangeAt u3.heap.size 0 (cellsB R) ∧ W.rangeAt u4.heap.size 0 (cellsB X) ∧ W.rangeAt u5.heap.size 0 (cellsB Y) ∧ W.cell? ⟨u6.heap.size, 2, none⟩ = some (.slice (some ⟨pb, po, none⟩) 1 pc) ∧ W.rangeAt pb po (cellsB X)) := fun W hW => by
    refine ⟨(R10.out.below' hW).range, (X10.out.below' hW).range, (Y10.out.below' hW).range, (Q10.out.below' hW).cell 2, ?_⟩
    obtain ⟨b', o', e', _, hr⟩ := (P10.out.below hW).at_ (i := 0) (by simp)
    obtain ⟨rfl, rfl⟩ : pb = b' ∧ po = o' := by simpa using e'
    simpa using hr
  have E8 : Below u8.heap.size u8 u8 := Below.refl _ _
  clear A0 A1 A2 A3 A4 A5 A6 A7 A8 A9 A10 B0 B1 B2 B3 B4 B5 B6 B7 B8 B9 B10 C0 C1 C2 C3 C4 C5 C6 C7 C8 C9 C10 L1 L2 L3 L4 L5 L6 L7 L8 L9 L10 R3 R4 R5 R6 R7 R8 R9 R10 X5 X6 X7 X8 X9 X10 Y7 Y8 Y9 Y10 P8 P9 P10 Q9 Q10
  clear D0 D1 D2 D3 D4 D5 D6 D7 D8 D9
  refine wp_region_noPanic ?_
  refine wp_region_held_drew (S := fun W => W.rangeAt u3.heap.size 0 (cellsB R) ∧ W.rangeAt u4.heap.size 0 (cellsB X) ∧ W.rangeAt u5.heap.size 0 (cellsB Y) ∧ W.cell? ⟨u6.heap.size, 2, none⟩ = some (.slice (some ⟨pb, po, none⟩) 1 pc) ∧ W.rangeAt pb po (cellsB X)) (by kernel_rfl) (HS.out _ E8.drew) (fun hS => ?_)
  have E8 := E8.drew
  refine hd_take 0 (_) rfl rfl (by kernel_rfl) (by kernel_rfl) (by kernel_rfl) (fun _ _ _ h => h) (fun w hw => by go_simp <;> rfl) hS ?_
  simp only [List.getElem_toArray, List.getElem_cons_succ, List.getElem_cons_zero, Act.put, List.setIfInBounds_toArray, List.set_cons_zero, List.set_cons_succ]
  refine hd_take 1 (_) rfl rfl (by kernel_rfl) (by kernel_rfl) (by kernel_rfl) (fun _ _ _ h => h) (fun w hw => by go_simp <;> rfl) hS ?_
  simp only [List.getElem_toArray, List.getElem_cons_succ, List.getElem_cons_zero, Act.put, List.setIfInBounds_toArray, List.set_cons_zero, List.set_cons_succ]
  refine hd_take 2 (_) rfl rfl (by kernel_rfl) (by kernel_rfl) (by kernel_rfl) (fun _ _ _ h => h) (fun w hw => by go_simp <;> rfl) hS ?_
  simp only [List.getElem_toArray, List.getElem_cons_succ, List.getElem_cons_zero, Act.put, List.setIfInBounds_toArray, List.set_cons_zero, List.set_cons_succ]
  refine hg_take 3 (_) rfl (by rfl) (by kernel_rfl) (by kernel_rfl) (by kernel_rfl) (fun _ _ _ h => h) (fun w hw => by go_simp <;> rfl) hS ?_
  simp only [List.getElem_toArray, List.getElem_cons_succ, List.getElem_cons_zero, Act.put, List.setIfInBounds_toArray, List.set_cons_zero, List.set_cons_succ]
  refine hg_take 4 (_) rfl (by rfl) (by kernel_rfl) (by kernel_rfl) (by kernel_rfl) (fun _ _ _ h => h) (fun w hw => by go_simp <;> rfl) hS ?_
  simp only [List.getElem_toArray, List.getElem_cons_succ, List.getElem_cons_zero, Act.put, List.setIfInBounds_toArray, List.set_cons_zero, List.set_cons_succ]
  refine hd_take 5 (_) rfl rfl (by kernel_rfl) (by kernel_rfl) (by kernel_rfl) (fun _ _ _ h => h) (fun w hw => by go_simp <;> rfl) hS ?_
  simp only [List.getElem_toArray, List.getElem_cons_succ, List.getElem_cons_zero, Act.put, List.setIfInBounds_toArray, List.set_cons_zero, List.set_cons_succ]
  refine hd_take 6 (_) rfl rfl (by kernel_rfl) (by kernel_rfl) (by kernel_rfl) (fun _ _ _ h => h) (fun w hw => by go_simp <;> rfl) hS ?_
  simp only [List.getElem_toArray, List.getElem_cons_succ, List.getElem_cons_zero, Act.put, List.setIfInBounds_toArray, List.set_cons_zero, List.set_cons_succ]
  refine hg_take 7 (_) rfl (by rfl) (by kernel_rfl) (by kernel_rfl) (by kernel_rfl) (fun _ _ _ h => h) (fun w hw => by go_simp <;> rfl) hS ?_
  simp only [List.getElem_toArray, List.getElem_cons_succ, List.getElem_cons_zero, Act.put, List.setIfInBounds_toArray, List.set_cons_zero, List.set_cons_succ]
  refine hg_take 8 (_) rfl (by rfl) (by kernel_rfl) (by kernel_rfl) (by kernel_rfl) (fun _ _ _ h => h) (fun w hw => by go_simp <;> rfl) hS ?_
  simp only [List.getElem_toArray, List.getElem_cons_succ, List.getElem_cons_zero, Act.put, List.setIfInBounds_toArray, List.set_cons_zero, List.set_cons_succ]
  refine hd_take 9 (_) rfl rfl (by kernel_rfl) (by kernel_rfl) (by kernel_rfl) (fun _ _ _ h => h) (fun w hw => by go_simp <;> rfl) hS ?_
  simp only [List.getElem_toArray, List.getElem_cons_succ, List.getElem_cons_zero, Act.put, List.setIfInBounds_toArray, List.set_cons_zero, List.set_cons_succ]
  refine hd_take 10 (_) rfl rfl (by kernel_rfl) (by kernel_rfl) (by kernel_rfl) (fun _ _ _ h => h) (fun w hw => by go_simp <;> rfl) hS ?_
  simp only [List.getElem_toArray, List.getElem_cons_succ, List.getElem_cons_zero, Act.put, List.setIfInBounds_toArray, List.set_cons_zero, List.set_cons_succ]
  refine hg_load 11 (u3.heap.size) (0) (cellsB R) _ _ rfl rfl (by rfl) (by kernel_rfl) (by kernel_rfl) (by kernel_rfl) (fun _ _ _ h => h) rfl (fun w hw => hw.1) under_key rfl (key_info HRL.out) hS ?_
  simp only [List.getElem_toArray, List.getElem_cons_succ, List.getElem_cons_zero, Act.put, List.setIfInBounds_toArray, List.set_cons_zero, List.set_cons_succ]
  refine hg_load 12 (u4.heap.size) (0) (cellsB X) _ _ rfl rfl (by rfl) (by kernel_rfl) (by kernel_rfl) (by kernel_rfl) (fun _ _ _ h => h) rfl (fun w hw => hw.2.1) under_key rfl (key_info HXL.out) hS ?_
  simp only [List.getElem_toArray, List.getElem_cons_succ, List.getElem_cons_zero, Act.put, List.setIfInBounds_toArray, List.set_cons_zero, List.set_cons_succ]
  refine hg_load 13 (u5.heap.size) (0) (cellsB Y) _ _ rfl rfl (by rfl) (by kernel_rfl) (by kernel_rfl) (by kernel_rfl) (fun _ _ _ h => h) rfl (fun w hw => hw.2.2.1) under_key rfl (key_info HYL.out) hS ?_
  simp only [List.getElem_toArray, List.getElem_cons_succ, List.getElem_cons_zero, Act.put, List.setIfInBounds_toArray, List.set_cons_zero, List.set_cons_succ]
  refine hg_calls 14 77 #[.agg (cellsB X).toArray, .agg (cellsB Y).toArray] rfl (by rfl) (by kernel_rfl) (by go_simp <;> rfl) ?_
  refine (H6.out _).mono ?_
  rintro e v14 ⟨⟨tA, tc, rfl, hT⟩, hb⟩
  have E14 := bel_on E8 hb
  have hSv14 := HS.out _ E14
  clear hb
  refine ⟨_, rfl, hSv14, ?_⟩
  simp only [List.getElem_toArray, List.getElem_cons_succ, List.getElem_cons_zero, Act.put, List.setIfInBounds_toArray, List.set_cons_zero, List.set_cons_succ]
  refine hg_calls 15 38 #[.slice tA 33 tc] rfl (by rfl) (by kernel_rfl) (by go_simp <;> rfl) ?_
  refine (H7.out _ _ _ hT).mono ?_
  rintro e v15 ⟨rfl, hb⟩
  have E15 := bel_on E14 hb
  have hSv15 := HS.out _ E15
  clear hT
  clear hb
  refine ⟨_, rfl, hSv15, ?_⟩
  simp only [List.getElem_toArray, List.getElem_cons_succ, List.getElem_cons_zero, Act.put, List.setIfInBounds_toArray, List.set_cons_zero, List.set_cons_succ]
  refine hg_take 16 (.bool false) rfl (by rfl) (by kernel_rfl) (by kernel_rfl) (by kernel_rfl) (fun _ _ _ h => h) (fun w hw => by have hx := equalIn_keys w R R HRL.out HRL.out; simp [go_sem, hx]) hSv15 ?_
  simp only [List.getElem_toArray, List.getElem_cons_succ, List.getElem_cons_zero, Act.put, List.setIfInBounds_toArray, List.set_cons_zero, List.set_cons_succ]
  refine hd_take 17 (_) rfl rfl (by kernel_rfl) (by kernel_rfl) (by kernel_rfl) (fun _ _ _ h => h) (fun w hw => by go_simp <;> rfl) hSv15 ?_
  simp only [List.getElem_toArray, List.getElem_cons_succ, List.getElem_cons_zero, Act.put, List.setIfInBounds_toArray, List.set_cons_zero, List.set_cons_succ]
  refine hd_take 18 (_) rfl rfl (by kernel_rfl) (by kernel_rfl) (by kernel_rfl) (fun _ _ _ h => h) (fun w hw => by go_simp <;> rfl) hSv15 ?_
  simp only [List.getElem_toArray, List.getElem_cons_succ, List.getElem_cons_zero, Act.put, List.setIfInBounds_toArray, List.set_cons_zero, List.set_cons_succ]
  refine hg_take 19 (_) rfl (by rfl) (by kernel_rfl) (by kernel_rfl) (by kernel_rfl) (fun _ _ _ h => h) (fun w hw => by go_simp <;> rfl) hSv15 ?_
  simp only [List.getElem_toArray, List.getElem_cons_succ, List.getElem_cons_zero, Act.put, List.setIfInBounds_toArray, List.set_cons_zero, List.set_cons_succ]
  refine hg_take 20 (_) rfl (by rfl) (by kernel_rfl) (by kernel_rfl) (by kernel_rfl) (fun _ _ _ h => h) (fun w hw => by go_simp <;> rfl) hSv15 ?_
  simp only [List.getElem_toArray, List.getElem_cons_succ, List.getElem_cons_zero, Act.put, List.setIfInBounds_toArray, List.set_cons_zero, List.set_cons_succ]
  refine hd_take 21 (_) rfl rfl (by kernel_rfl) (by kernel_rfl) (by kernel_rfl) (fun _ _ _ h => h) (fun w hw => by go_simp <;> rfl) hSv15 ?_
  simp only [List.getElem_toArray, List.getElem_cons_succ, List.getElem_cons_zero, Act.put, List.setIfInBounds_toArray, List.set_cons_zero, List.set_cons_succ]
  refine hd_take 22 (_) rfl rfl (by kernel_rfl) (by kernel_rfl) (by kernel_rfl) (fun _ _ _ h => h) (fun w hw => by go_simp <;> rfl) hSv15 ?_
  simp only [List.getElem_toArray, List.getElem_cons_succ, List.getElem_cons_zero, Act.put, List.setIfInBounds_toArray, List.set_cons_zero, List.set_cons_succ]
  refine hg_take 23 (_) rfl (by rfl) (by kernel_rfl) (by kernel_rfl) (by kernel_rfl) (fun _ _ _ h => h) (fun w hw => by go_simp <;> rfl) hSv15 ?_
  simp only [List.getElem_toArray, List.getElem_cons_succ, List.getElem_cons_zero, Act.put, List.setIfInBounds_toArray, List.set_cons_zero, List.set_cons_succ]
  refine hg_take 24 (.slice (some ⟨pb, po, none⟩) 1 pc) rfl (by rfl) (by kernel_rfl) (by kernel_rfl) (by kernel_rfl) (fun _ _ _ h => h) (fun w hw => by have hx := hw.2.2.2.1; simp [go_sem, hx]) hSv15 ?_
  simp only [List.getElem_toArray, List.getElem_cons_succ, List.getElem_cons_zero, Act.put, List.setIfInBounds_toArray, List.set_cons_zero, List.set_cons_succ]
  refine hg_take 25 (_) rfl (by rfl) (by kernel_rfl) (by kernel_rfl) (by kernel_rfl) (fun _ _ _ h => h) (fun w hw => by go_simp <;> rfl) hSv15 ?_
  simp only [List.getElem_toArray, List.getElem_cons_succ, List.getElem_cons_zero, Act.put, List.setIfInBounds_toArray, List.set_cons_zero, List.set_cons_succ]
  refine hg_take 26 (_) rfl (by rfl) (by kernel_rfl) (by kernel_rfl) (by kernel_rfl) (fun _ _ _ h => h) (fun w hw => by go_simp <;> rfl) hSv15 ?_
  simp only [List.getElem_toArray, List.getElem_cons_succ, List.getElem_cons_zero, Act.put, List.setIfInBounds_toArray, List.set_cons_zero, List.set_cons_succ]
  refine hd_take 27 (_) rfl rfl (by kernel_rfl) (by kernel_rfl) (by kernel_rfl) (fun _ _ _ h => h) (fun w hw => by go_simp <;> rfl) hSv15 ?_
  simp only [List.getElem_toArray, List.getElem_cons_succ, List.getElem_cons_zero, Act.put, List.setIfInBounds_toArray, List.set_cons_zero, List.set_cons_succ]
  refine hd_take 28 (_) rfl rfl (by kernel_rfl) (by kernel_rfl) (by kernel_rfl) (fun _ _ _ h => h) (fun w hw => by go_simp <;> rfl) hSv15 ?_
  simp only [List.getElem_toArray, List.getElem_cons_succ, List.getElem_cons_zero, Act.put, List.setIfInBounds_toArray, List.set_cons_zero, List.set_cons_succ]
  refine hg_take 29 (_) rfl (by rfl) (by kernel_rfl) (by kernel_rfl) (by kernel_rfl) (fun _ _ _ h => h) (fun w hw => by go_simp <;> rfl) hSv15 ?_
  simp only [List.getElem_toArray, List.getElem_cons_succ, List.getElem_cons_zero, Act.put, List.setIfInBounds_toArray, List.set_cons_zero, List.set_cons_succ]
  refine hg_take 30 (.slice (some ⟨pb, po, none⟩) 1 pc) rfl (by rfl) (by kernel_rfl) (by kernel_rfl) (by kernel_rfl) (fun _ _ _ h => h) (fun w hw => by have hx := hw.2.2.2.1; simp [go_sem, hx]) hSv15 ?_
  simp only [List.getElem_toArray, List.getElem_cons_succ, List.getElem_cons_zero, Act.put, List.setIfInBounds_toArray, List.set_cons_zero, List.set_cons_succ]
  refine hg_take 31 (_) rfl (by rfl) (by kernel_rfl) (by kernel_rfl) (by kernel_rfl) (fun _ _ _ h => h) (fun w hw => by go_simp <;> rfl) hSv15 ?_
  simp only [List.getElem_toArray, List.getElem_cons_succ, List.getElem_cons_zero, Act.put, List.setIfInBounds_toArray, List.set_cons_zero, List.set_cons_succ]
  refine hg_load 32 (pb) (po) (cellsB X) _ _ rfl rfl (by rfl) (by kernel_rfl) (by kernel_rfl) (by kernel_rfl) (fun _ _ _ h => h) rfl (fun w hw => hw.2.2.2.2) under_key rfl (key_info HXL.out) hSv15 ?_
  simp only [List.getElem_toArray, List.getElem_cons_succ, List.getElem_cons_zero, Act.put, List.setIfInBounds_toArray, List.set_cons_zero, List.set_cons_succ]
  refine hg_load 33 (u4.heap.size) (0) (cellsB X) _ _ rfl rfl (by rfl) (by kernel_rfl) (by kernel_rfl) (by kernel_rfl) (fun _ _ _ h => h) rfl (fun w hw => hw.2.1) under_key rfl (key_info HXL.out) hSv15 ?_
  simp only [List.getElem_toArray, List.getElem_cons_succ, List.getElem_cons_zero, Act.put, List.setIfInBounds_toArray, List.set_cons_zero, List.set_cons_succ]
  refine hg_take 34 (.bool false) rfl (by rfl) (by kernel_rfl) (by kernel_rfl) (by kernel_rfl) (fun _ _ _ h => h) (fun w hw => by have hx := equalIn_keys w X X HXL.out HXL.out; simp [go_sem, hx]) hSv15 ?_
  simp only [List.getElem_toArray, List.getElem_cons_succ, List.getElem_cons_zero, Act.put, List.setIfInBounds_toArray, List.set_cons_zero, List.set_cons_succ]
  refine hd_take 35 (_) rfl rfl (by kernel_rfl) (by kernel_rfl) (by kernel_rfl) (fun _ _ _ h => h) (fun w hw => by go_simp <;> rfl) hSv15 ?_
  simp only [List.getElem_toArray, List.getElem_cons_succ, List.getElem_cons_zero, Act.put, List.setIfInBounds_toArray, List.set_cons_zero, List.set_cons_succ]
  refine hd_take 36 (_) rfl rfl (by kernel_rfl) (by kernel_rfl) (by kernel_rfl) (fun _ _ _ h => h) (fun w hw => by go_simp <;> rfl) hSv15 ?_
  simp only [List.getElem_toArray, List.getElem_cons_succ, List.getElem_cons_zero, Act.put, List.setIfInBounds_toArray, List.set_cons_zero, List.set_cons_succ]
  refine hg_take 37 (_) rfl (by rfl) (by kernel_rfl) (by kernel_rfl) (by kernel_rfl) (fun _ _ _ h => h) (fun w hw => by go_simp <;> rfl) hSv15 ?_
  simp only [List.getElem_toArray, List.getElem_cons_succ, List.getElem_cons_zero, Act.put, List.setIfInBounds_toArray, List.set_cons_zero, List.set_cons_succ]
  refine hg_take 38 (_) rfl (by rfl) (by kernel_rfl) (by kernel_rfl) (by kernel_rfl) (fun _ _ _ h => h) (fun w hw => by go_simp <;> rfl) hSv15 ?_
  simp only [List.getElem_toArray, List.getElem_cons_succ, List.getElem_cons_zero, Act.put, List.setIfInBounds_toArray, List.set_cons_zero, List.set_cons_succ]
  refine hd_take 39 (_) rfl rfl (by kernel_rfl) (by kernel_rfl) (by kernel_rfl) (fun _ _ _ h => h) (fun w hw => by go_simp <;> rfl) hSv15 ?_
  simp only [List.getElem_toArray, List.getElem_cons_succ, List.getElem_cons_zero, Act.put, List.setIfInBounds_toArray, List.set_cons_zero, List.set_cons_succ]
  refine hd_take 40 (_) rfl rfl (by kernel_rfl) (by kernel_rfl) (by kernel_rfl) (fun _ _ _ h => h) (fun w hw => by go_simp <;> rfl) hSv15 ?_
  simp only [List.getElem_toArray, List.getElem_cons_succ, List.getElem_cons_zero, Act.put, List.setIfInBounds_toArray, List.set_cons_zero, List.set_cons_succ]
  refine hg_take 41 (_) rfl (by rfl) (by kernel_rfl) (by kernel_rfl) (by kernel_rfl) (fun _ _ _ h => h) (fun w hw => by go_simp <;> rfl) hSv15 ?_
  simp only [List.getElem_toArray, List.getElem_cons_succ, List.getElem_cons_zero, Act.put, List.setIfInBounds_toArray, List.set_cons_zero, List.set_cons_succ]
  refine hg_take 42 (_) rfl (by rfl) (by kernel_rfl) (by kernel_rfl) (by kernel_rfl) (fun _ _ _ h => h) (fun w hw => by go_simp <;> rfl) hSv15 ?_
  simp only [List.getElem_toArray, List.getElem_cons_succ, List.getElem_cons_zero, Act.put, List.setIfInBounds_toArray, List.set_cons_zero, List.set_cons_succ]
  refine hd_take 43 (_) rfl rfl (by kernel_rfl) (by kernel_rfl) (by kernel_rfl) (fun _ _ _ h => h) (fun w hw => by go_simp <;> rfl) hSv15 ?_
  simp only [List.getElem_toArray, List.getElem_cons_succ, List.getElem_cons_zero, Act.put, List.setIfInBounds_toArray, List.set_cons_zero, List.set_cons_succ]
  refine wpAnyH_done (by kernel_rfl) (NoPanic.normal ?_) _
  have D := bel_on D10.out E15
  clear hS hSv14 hSv15 E8 E14 E15 HS
  have HT3 : Hid (∀ W, Below v15.heap.size v15 W → TI W) := fun W hW => HT.out W (bel_on D hW)
  have F0 : Below v15.heap.size v15 v15 := Below.refl _ _
  go_wp2_with (first
    | (go_at_call 59; (with_reducible refine (HM.out _).mono ?_); rintro e x1 ⟨⟨mA, mc, rfl, hm⟩, hb⟩; have F1 := bel_on F0 hb; have M1 := Lib.hid hm; clear hb hm)
    | (go_at_call 60; (with_reducible refine (HE3.out _ (HT3.out _ F1)).mono ?_); rintro e x2 ⟨⟨V3, rfl, hj3⟩, hb⟩; have F2 := bel_on F1 hb; have M2 := Lib.hid (M1.out.below hb); clear hb)
    | (go_at_call 23; (with_reducible refine hj3.mono ?_); rintro e x3 ⟨rfl, hb⟩; have F3 := bel_on F2 hb; have M3 := Lib.hid (M2.out.below hb); clear hb hj3)
    | (go_at_call 60; (with_reducible refine (HE4.out _ (HT3.out _ F3)).mono ?_); rintro e x4 ⟨⟨V4, rfl, hj4⟩, hb⟩; have F4 := bel_on F3 hb; have M4 := Lib.hid (M3.out.below hb); clear hb)
    | (go_at_call 23; (with_reducible refine hj4.mono ?_); rintro e x5 ⟨rfl, hb⟩; have F5 := bel_on F4 hb; have M5 := Lib.hid (M4.out.below hb); clear hb hj4)
    | (go_at_call 20; (with_reducible refine (HC.out _).mono ?_); rintro e x6 ⟨cA, cc, cB, cd, rfl, hn1, hn2, hb⟩; have F6 := bel_on F5 hb; have M6 := Lib.hid (M5.out.below hb); have U6 := Lib.hid hn1; have V6 := Lib.hid hn2; clear hb hn1 hn2)
    | (refine wpList_store_row rfl 38 (.tmp 18) (.tmp 115) rfl x6.heap.size #[.slice cA Np cc, .slice cB Nq cd] rfl rfl 38 #[.slice none 0 0, .slice none 0 0] (Blk.new x6 _ _) (by kernel_rfl) rfl (by simp [Value.oneCell']) ?_; obtain ⟨x7, hV⟩ : ∃ W, W = (x6.alloc (.cells #[.slice none 0 0, .slice none 0 0] 38)).setRow x6.heap.size #[.slice cA Np cc, .slice cB Nq cd] := ⟨_, rfl⟩; rw [← hV]; obtain ⟨gb, nb⟩ := keybox2_ _ _ _ _ hV; have F7 := bel_on F6 gb; have M7 := Lib.hid (M6.out.below gb); have U7 := Lib.hid (U6.out.below gb); have V7 := Lib.hid (V6.out.below gb); have G7 := Lib.hid nb; clear hV gb nb))
  clear F0 F1 F2 F3 F4 F5 F6 M1 M2 M3 M4 M5 M6 U6 V6
  have HS : Hid (∀ W, Below x7.heap.size x7 W → W.rangeAt x6.heap.size 0 [.slice cA Np cc, .slice cB Nq cd]) := fun W hW => (G7.out.below' hW).range
  have E7 : Below x7.heap.size x7 x7 := Below.refl _ _
  refine wp_region_noPanic ?_
  refine wp_region_held_drew (S := fun W => W.rangeAt x6.heap.size 0 [.slice cA Np cc, .slice cB Nq cd]) (by kernel_rfl) (HS.out _ E7.drew) (fun hS => ?_)
  have E7 := E7.drew
  refine hd_take 0 (_) rfl rfl (by kernel_rfl) (by kernel_rfl) (by kernel_rfl) (fun _ _ _ h => h) (fun w hw => by go_simp <;> rfl) hS ?_
  simp only [List.getElem_toArray, List.getElem_cons_succ, List.getElem_cons_zero, Act.put, List.setIfInBounds_toArray, List.set_cons_zero, List.set_cons_succ]
  refine hd_take 1 (_) rfl rfl (by kernel_rfl) (by kernel_rfl) (by kernel_rfl) (fun _ _ _ h => h) (fun w hw => by go_simp <;> rfl) hS ?_
  simp only [List.getElem_toArray, List.getElem_cons_succ, List.getElem_cons_zero, Act.put, List.setIfInBounds_toArray, List.set_cons_zero, List.set_cons_succ]
  refine hd_take 2 (_) rfl rfl (by kernel_rfl) (by kernel_rfl) (by kernel_rfl) (fun _ _ _ h => h) (fun w hw => by go_simp <;> rfl) hS ?_
  simp only [List.getElem_toArray, List.getElem_cons_succ, List.getElem_cons_zero, Act.put, List.setIfInBounds_toArray, List.set_cons_zero, List.set_cons_succ]
  refine hg_take 3 (_) rfl (by rfl) (by kernel_rfl) (by kernel_rfl) (by kernel_rfl) (fun _ _ _ h => h) (fun w hw => by go_simp <;> rfl) hS ?_
  simp only [List.getElem_toArray, List.getElem_cons_succ, List.getElem_cons_zero, Act.put, List.setIfInBounds_toArray, List.set_cons_zero, List.set_cons_succ]
  refine hg_take 4 (_) rfl (by rfl) (by kernel_rfl) (by kernel_rfl) (by kernel_rfl) (fun _ _ _ h => h) (fun w hw => by go_simp <;> rfl) hS ?_
  simp only [List.getElem_toArray, List.getElem_cons_succ, List.getElem_cons_zero, Act.put, List.setIfInBounds_toArray, List.set_cons_zero, List.set_cons_succ]
  refine hg_take 5 (_) rfl (by rfl) (by kernel_rfl) (by kernel_rfl) (by kernel_rfl) (fun _ _ _ h => h) (fun w hw => by go_simp <;> rfl) hS ?_
  simp only [List.getElem_toArray, List.getElem_cons_succ, List.getElem_cons_zero, Act.put, List.setIfInBounds_toArray, List.set_cons_zero, List.set_cons_succ]
  refine hg_take 6 (_) rfl (by rfl) (by kernel_rfl) (by kernel_rfl) (by kernel_rfl) (fun _ _ _ h => h) (fun w hw => by go_simp <;> rfl) hS ?_
  simp only [List.getElem_toArray, List.getElem_cons_succ, List.getElem_cons_zero, Act.put, List.setIfInBounds_toArray, List.set_cons_zero, List.set_cons_succ]
  refine hg_run 7 (.slice (some ⟨x7.heap.size, 0, none⟩) 3 3) (World.alloc _ (.cells #[.int .i64 1, .int .i64 5, .int .i64 2, .int .i64 9, .int .i64 3, .int .i64 2] 98)) rfl (by rfl) (by kernel_rfl) (by go_simp <;> rfl) (HS.out _ (bel_on E7 (alloc_bel _ _))) ?_
  simp only [List.getElem_toArray, List.getElem_cons_succ, List.getElem_cons_zero, Act.put, List.setIfInBounds_toArray, List.set_cons_zero, List.set_cons_succ]
  have E8 := bel_on E7 (alloc_bel _ (.cells #[.int .i64 1, .int .i64 5, .int .i64 2, .int .i64 9, .int .i64 3, .int .i64 2] 98))
  have hSa := HS.out _ E8
  refine hg_calls 8 31 #[.slice mA 3 mc, .slice (some ⟨_, 0, none⟩) 3 3] rfl (by rfl) (by kernel_rfl) (by go_simp <;> rfl) ?_
  refine (HSE.out _ _ _ _ _ (M7.out.below E8) (HMs.out _)).mono ?_
  rintro e y8 ⟨rfl, hb⟩
  have E9 := bel_on E8 hb
  have hSy8 := HS.out _ E9
  clear hb
  refine ⟨_, rfl, hSy8, ?_⟩
  simp only [List.getElem_toArray, List.getElem_cons_succ, List.getElem_cons_zero, Act.put, List.setIfInBounds_toArray, List.set_cons_zero, List.set_cons_succ]
  refine hd_take 9 (_) rfl rfl (by kernel_rfl) (by kernel_rfl) (by kernel_rfl) (fun _ _ _ h => h) (fun w hw => by go_simp <;> rfl) hSy8 ?_
  simp only [List.getElem_toArray, List.getElem_cons_succ, List.getElem_cons_zero, Act.put, List.setIfInBounds_toArray, List.set_cons_zero, List.set_cons_succ]
  refine hd_take 10 (_) rfl rfl (by kernel_rfl) (by kernel_rfl) (by kernel_rfl) (fun _ _ _ h => h) (fun w hw => by go_simp <;> rfl) hSy8 ?_
  simp only [List.getElem_toArray, List.getElem_cons_succ, List.getElem_cons_zero, Act.put, List.setIfInBounds_toArray, List.set_cons_zero, List.set_cons_succ]
  refine hg_take 11 (_) rfl (by rfl) (by kernel_rfl) (by kernel_rfl) (by kernel_rfl) (fun _ _ _ h => h) (fun w hw => by go_simp <;> rfl) hSy8 ?_
  simp only [List.getElem_toArray, List.getElem_cons_succ, List.getElem_cons_zero, Act.put, List.setIfInBounds_toArray, List.set_cons_zero, List.set_cons_succ]
  refine hg_take 12 (_) rfl (by rfl) (by kernel_rfl) (by kernel_rfl) (by kernel_rfl) (fun _ _ _ h => h) (fun w hw => by go_simp <;> rfl) hSy8 ?_
  simp only [List.getElem_toArray, List.getElem_cons_succ, List.getElem_cons_zero, Act.put, List.setIfInBounds_toArray, List.set_cons_zero, List.set_cons_succ]
  refine hd_take 13 (_) rfl rfl (by kernel_rfl) (by kernel_rfl) (by kernel_rfl) (fun _ _ _ h => h) (fun w hw => by go_simp <;> rfl) hSy8 ?_
  simp only [List.getElem_toArray, List.getElem_cons_succ, List.getElem_cons_zero, Act.put, List.setIfInBounds_toArray, List.set_cons_zero, List.set_cons_succ]
  refine hd_take 14 (_) rfl rfl (by kernel_rfl) (by kernel_rfl) (by kernel_rfl) (fun _ _ _ h => h) (fun w hw => by go_simp <;> rfl) hSy8 ?_
  simp only [List.getElem_toArray, List.getElem_cons_succ, List.getElem_cons_zero, Act.put, List.setIfInBounds_toArray, List.set_cons_zero, List.set_cons_succ]
  refine hg_take 15 (_) rfl (by rfl) (by kernel_rfl) (by kernel_rfl) (by kernel_rfl) (fun _ _ _ h => h) (fun w hw => by go_simp <;> rfl) hSy8 ?_
  simp only [List.getElem_toArray, List.getElem_cons_succ, List.getElem_cons_zero, Act.put, List.setIfInBounds_toArray, List.set_cons_zero, List.set_cons_succ]
  refine hg_take 16 (_) rfl (by rfl) (by kernel_rfl) (by kernel_rfl) (by kernel_rfl) (fun _ _ _ h => h) (fun w hw => by go_simp <;> rfl) hSy8 ?_
  simp only [List.getElem_toArray, List.getElem_cons_succ, List.getElem_cons_zero, Act.put, List.setIfInBounds_toArray, List.set_cons_zero, List.set_cons_succ]
  refine hd_take 17 (_) rfl rfl (by kernel_rfl) (by kernel_rfl) (by kernel_rfl) (fun _ _ _ h => h) (fun w hw => by go_simp <;> rfl) hSy8 ?_
  simp only [List.getElem_toArray, List.getElem_cons_succ, List.getElem_cons_zero, Act.put, List.setIfInBounds_toArray, List.set_cons_zero, List.set_cons_succ]
  refine hd_take 18 (_) rfl rfl (by kernel_rfl) (by kernel_rfl) (by kernel_rfl) (fun _ _ _ h => h) (fun w hw => by go_simp <;> rfl) hSy8 ?_
  simp only [List.getElem_toArray, List.getElem_cons_succ, List.getElem_cons_zero, Act.put, List.setIfInBounds_toArray, List.set_cons_zero, List.set_cons_succ]
  refine hg_take 19 (_) rfl (by rfl) (by kernel_rfl) (by kernel_rfl) (by kernel_rfl) (fun _ _ _ h => h) (fun w hw => by go_simp <;> rfl) hSy8 ?_
  simp only [List.getElem_toArray, List.getElem_cons_succ, List.getElem_cons_zero, Act.put, List.setIfInBounds_toArray, List.set_cons_zero, List.set_cons_succ]
  refine hg_take 20 (_) rfl (by rfl) (by kernel_rfl) (by kernel_rfl) (by kernel_rfl) (fun _ _ _ h => h) (fun w hw => by go_simp <;> rfl) hSy8 ?_
  simp only [List.getElem_toArray, List.getElem_cons_succ, List.getElem_cons_zero, Act.put, List.setIfInBounds_toArray, List.set_cons_zero, List.set_cons_succ]
  refine hd_take 21 (_) rfl rfl (by kernel_rfl) (by kernel_rfl) (by kernel_rfl) (fun _ _ _ h => h) (fun w hw => by go_simp <;> rfl) hSy8 ?_
  simp only [List.getElem_toArray, List.getElem_cons_succ, List.getElem_cons_zero, Act.put, List.setIfInBounds_toArray, List.set_cons_zero, List.set_cons_succ]
  refine hd_take 22 (_) rfl rfl (by kernel_rfl) (by kernel_rfl) (by kernel_rfl) (fun _ _ _ h => h) (fun w hw => by go_simp <;> rfl) hSy8 ?_
  simp only [List.getElem_toArray, List.getElem_cons_succ, List.getElem_cons_zero, Act.put, List.setIfInBounds_toArray, List.set_cons_zero, List.set_cons_succ]
  refine hg_take 23 (_) rfl (by rfl) (by kernel_rfl) (by kernel_rfl) (by kernel_rfl) (fun _ _ _ h => h) (fun w hw => by go_simp <;> rfl) hSy8 ?_
  simp only [List.getElem_toArray, List.getElem_cons_succ, List.getElem_cons_zero, Act.put, List.setIfInBounds_toArray, List.set_cons_zero, List.set_cons_succ]
  refine hg_take 24 (_) rfl (by rfl) (by kernel_rfl) (by kernel_rfl) (by kernel_rfl) (fun _ _ _ h => h) (fun w hw => by go_simp <;> rfl) hSy8 ?_
  simp only [List.getElem_toArray, List.getElem_cons_succ, List.getElem_cons_zero, Act.put, List.setIfInBounds_toArray, List.set_cons_zero, List.set_cons_succ]
  refine hd_take 25 (_) rfl rfl (by kernel_rfl) (by kernel_rfl) (by kernel_rfl) (fun _ _ _ h => h) (fun w hw => by go_simp <;> rfl) hSy8 ?_
  simp only [List.getElem_toArray, List.getElem_cons_succ, List.getElem_cons_zero, Act.put, List.setIfInBounds_toArray, List.set_cons_zero, List.set_cons_succ]
  refine hd_take 26 (_) rfl rfl (by kernel_rfl) (by kernel_rfl) (by kernel_rfl) (fun _ _ _ h => h) (fun w hw => by go_simp <;> rfl) hSy8 ?_
  simp only [List.getElem_toArray, List.getElem_cons_succ, List.getElem_cons_zero, Act.put, List.setIfInBounds_toArray, List.set_cons_zero, List.set_cons_succ]
  refine hg_take 27 (_) rfl (by rfl) (by kernel_rfl) (by kernel_rfl) (by kernel_rfl) (fun _ _ _ h => h) (fun w hw => by go_simp <;> rfl) hSy8 ?_
  simp only [List.getElem_toArray, List.getElem_cons_succ, List.getElem_cons_zero, Act.put, List.setIfInBounds_toArray, List.set_cons_zero, List.set_cons_succ]
  refine hg_take 28 (_) rfl (by rfl) (by kernel_rfl) (by kernel_rfl) (by kernel_rfl) (fun _ _ _ h => h) (fun w hw => by go_simp <;> rfl) hSy8 ?_
  simp only [List.getElem_toArray, List.getElem_cons_succ, List.getElem_cons_zero, Act.put, List.setIfInBounds_toArray, List.set_cons_zero, List.set_cons_succ]
  refine hd_take 29 (_) rfl rfl (by kernel_rfl) (by kernel_rfl) (by kernel_rfl) (fun _ _ _ h => h) (fun w hw => by go_simp <;> rfl) hSy8 ?_
  simp only [List.getElem_toArray, List.getElem_cons_succ, List.getElem_cons_zero, Act.put, List.setIfInBounds_toArray, List.set_cons_zero, List.set_cons_succ]
  refine hd_take 30 (_) rfl rfl (by kernel_rfl) (by kernel_rfl) (by kernel_rfl) (fun _ _ _ h => h) (fun w hw => by go_simp <;> rfl) hSy8 ?_
  simp only [List.getElem_toArray, List.getElem_cons_succ, List.getElem_cons_zero, Act.put, List.setIfInBounds_toArray, List.set_cons_zero, List.set_cons_succ]
  refine hg_load 31 x6.heap.size 0 [.slice cA Np cc, .slice cB Nq cd] _ _ rfl rfl (by rfl) (by kernel_rfl) (by kernel_rfl) (by kernel_rfl) (fun _ _ _ h => h) rfl (fun w hw => hw) Tryz.underlying38 rfl (by kernel_rfl) hSy8 ?_
  simp only [List.getElem_toArray, List.getElem_cons_succ, List.getElem_cons_zero, Act.put, List.setIfInBounds_toArray, List.set_cons_zero, List.set_cons_succ]
  refine hg_calls 32 37 #[.int .u64 1] rfl (by rfl) (by kernel_rfl) (by go_simp <;> rfl) ?_
  refine (HO1.out _).mono ?_
  rintro e y32 ⟨⟨oA, oc, rfl, ho⟩, hb⟩
  have E10 := bel_on E9 hb
  have hSy32 := HS.out _ E10
  clear hb
  refine ⟨_, rfl, hSy32, ?_⟩
  simp only [List.getElem_toArray, List.getElem_cons_succ, List.getElem_cons_zero, Act.put, List.setIfInBounds_toArray, List.set_cons_zero, List.set_cons_succ]
  refine hg_calls 33 37 #[.int .u64 2] rfl (by rfl) (by kernel_rfl) (by go_simp <;> rfl) ?_
  refine (HO2.out _).mono ?_
  rintro e y33 ⟨⟨qA, qc, rfl, hq⟩, hb⟩
  have E11 := bel_on E10 hb
  have hSy33 := HS.out _ E11
  have ho := ho.below hb
  clear hb
  refine ⟨_, rfl, hSy33, ?_⟩
  simp only [List.getElem_toArray, List.getElem_cons_succ, List.getElem_cons_zero, Act.put, List.setIfInBounds_toArray, List.set_cons_zero, List.set_cons_succ]
  refine hg_calls 34 36 #[.slice oA N1 oc, .slice qA N2 qc] rfl (by rfl) (by kernel_rfl) (by go_simp <;> rfl) ?_
  refine (HLO.out _ _ _ _ _ ho hq).mono ?_
  rintro e y34 ⟨zA, zc, zB, zd, rfl, hz1, hz2, hb⟩
  have E12 := bel_on E11 hb
  have hSy34 := HS.out _ E12
  clear hb
  refine ⟨_, rfl, hSy34, ?_⟩
  simp only [List.getElem_toArray, List.getElem_cons_succ, List.getElem_cons_zero, Act.put, List.setIfInBounds_toArray, List.set_cons_zero, List.set_cons_succ]
  refine hg_calls 35 22 #[.agg #[.slice cA Np cc, .slice cB Nq cd], .agg #[.slice zA Np zc, .slice zB Nq zd]] rfl (by rfl) (by kernel_rfl) (by go_simp <;> rfl) ?_
  refine (HSF.out _ _ _ _ _ _ _ _ _ (U7.out.below E12) (V7.out.below E12) hz1 hz2).mono ?_
  rintro e y35 ⟨rfl, hb⟩
  have E13 := bel_on E12 hb
  have hSy35 := HS.out _ E13
  clear hb
  refine ⟨_, rfl, hSy35, ?_⟩
  simp only [List.getElem_toArray, List.getElem_cons_succ, List.getElem_cons_zero, Act.put, List.setIfInBounds_toArray, List.set_cons_zero, List.set_cons_succ]
  refine hd_take 36 (_) rfl rfl (by kernel_rfl) (by kernel_rfl) (by kernel_rfl) (fun _ _ _ h => h) (fun w hw => by go_simp <;> rfl) hSy35 ?_
  simp only [List.getElem_toArray, List.getElem_cons_succ, List.getElem_cons_zero, Act.put, List.setIfInBounds_toArray, List.set_cons_zero, List.set_cons_succ]
  refine hd_take 37 (_) rfl rfl (by kernel_rfl) (by kernel_rfl) (by kernel_rfl) (fun _ _ _ h => h) (fun w hw => by go_simp <;> rfl) hSy35 ?_
  simp only [List.getElem_toArray, List.getElem_cons_succ, List.getElem_cons_zero, Act.put, List.setIfInBounds_toArray, List.set_cons_zero, List.set_cons_succ]
  refine wpAnyH_done (by kernel_rfl) (NoPanic.normal ?_) _
  go_wp2_with fail
  go_ret
  exact ⟨rfl, bel_on D (bel_on F7 E13)⟩
end Go.Proofs.YtinpiodfpnbllaaGreatDoor

/- The examples' case, made. -/
namespace Go.Proofs.YtinpiodfpnbllaaGreatDoor
open Go.RowKit
set_option linter.unusedVariables false
set_option linter.unusedSimpArgs false

def v0 : CV := ⟨zeroK, zeroK, 0, 0, [], [], 0, false, [], zeroK⟩
theorem zero55 : (#[.int .u8 0, .int .u8 0, .int .u8 0, .int .u8 0, .int .u8 0, .int .u8 0, .int .u8 0, .int .u8 0, .int .u8 0, .int .u8 0, .int .u8 0, .int .u8 0, .int .u8 0, .int .u8 0, .int .u8 0, .int .u8 0, .int .u8 0, .int .u8 0, .int .u8 0, .int .u8 0, .int .u8 0, .int .u8 0, .int .u8 0, .int .u8 0, .int .u8 0, .int .u8 0, .int .u8 0, .int .u8 0, .int .u8 0, .int .u8 0, .int .u8 0, .int .u8 0, .int .i64 0, .int .i64 0, .slice none 0 0, .slice none 0 0, .int .i64 0, .bool false, .slice none 0 0, .int .u8 0, .int .u8 0, .int .u8 0, .int .u8 0, .int .u8 0, .int .u8 0, .int .u8 0, .int .u8 0, .int .u8 0, .int .u8 0, .int .u8 0, .int .u8 0, .int .u8 0, .int .u8 0, .int .u8 0, .int .u8 0] : Array Value) = (caseC v0 none 0 0 none 0 0 none 0 0).toArray := rfl
theorem key1_lit : (#[.int .u8 1, .int .u8 0, .int .u8 0, .int .u8 0, .int .u8 0, .int .u8 0, .int .u8 0, .int .u8 0, .int .u8 0, .int .u8 0, .int .u8 0, .int .u8 0, .int .u8 0, .int .u8 0, .int .u8 0, .int .u8 0] : Array Value) = (cellsB (keyN 1)).toArray := rfl
theorem key3_lit : (#[.int .u8 3, .int .u8 0, .int .u8 0, .int .u8 0, .int .u8 0, .int .u8 0, .int .u8 0, .int .u8 0, .int .u8 0, .int .u8 0, .int .u8 0, .int .u8 0, .int .u8 0, .int .u8 0, .int .u8 0, .int .u8 0] : Array Value) = (cellsB (keyN 3)).toArray := rfl
theorem key4_lit : (#[.int .u8 4, .int .u8 0, .int .u8 0, .int .u8 0, .int .u8 0, .int .u8 0, .int .u8 0, .int .u8 0, .int .u8 0, .int .u8 0, .int .u8 0, .int .u8 0, .int .u8 0, .int .u8 0, .int .u8 0, .int .u8 0] : Array Value) = (cellsB (keyN 4)).toArray := rfl
theorem half_lit : (#[.int .u8 0, .int .u8 1, .int .u8 1, .int .u8 0] : Array Value) = (cellsB [0, 1, 1, 0]).toArray := rfl
theorem copy_lit : (#[.int .u8 0, .int .u8 1, .int .u8 2, .int .u8 0] : Array Value) = (cellsB [0, 1, 2, 0]).toArray := rfl

theorem OK16.low_ {B : Nat} {w : World} {A : Option Addr} {c : Nat} {l : List (List UInt8)} (h : OK16 B w A c l) {g : Nat} (hg : g < B) (cs : Array Value) : OK16 B (w.setRow g cs) A c l :=
  ⟨h.1, h.2.elim Or.inl (fun ⟨g', cap, cur, hv, hB, hh, r⟩ => Or.inr ⟨g', cap, cur, hv, hB, by rw [← hh]; exact setRow_other w g g' cs (by omega), r⟩)⟩
theorem Blk.other_ {w : World} {g k : Nat} {t : TypeId} {cs : Array Value} (h : Blk w g t cs) (hne : g ≠ k) (c : Array Value) : Blk (w.setRow k c) g t cs := (setRow_other w k g c hne).trans h
theorem wpList_build_case {ops : Array Oper} {rest : List Oper} {o : Oper} {a : Act} {w : World} {Q : Exit → Act → World → Prop} (hgd : o.guard = none) (parts : Array (Nat × Operand)) (ho : o.op = .build 29 parts) (d : Option Tmp) (hd : o.dst = d)
    (v : CV) (A : Option Addr) (m c : Nat) (Y : Option Addr) (n y : Nat) (H : Option Addr) (k h : Nat) (h1 : v.root.length = 16) (h2 : v.com.length = 16) (h3 : v.nonce.length = 16)
    (hx : (parts.map fun (i, x) => (i, a.eval x)).toList = [(0, .agg (cellsB v.root).toArray), (1, .agg (cellsB v.com).toArray), (2, .agg #[.int .i64 v.a, .int .i64 v.b, .slice A m c]), (3, .slice Y n y), (4, .int .i64 v.need), (5, .bool v.op), (6, .slice H k h), (7, .agg (cellsB v.nonce).toArray)])
    (hh : wpList Tryz.prog ops Q rest (a.put d (.agg (caseC v A m c Y n y H k h).toArray)) w) : wpList Tryz.prog ops Q (o :: rest) a w :=
  wpList_buildTo hgd 29 parts ho d hd _ (by rw [hx]; exact built_case v A m c Y n y H k h h1 h2 h3) hh
set_option maxHeartbeats 8000000 in
set_option maxRecDepth 100000 in
theorem example_in (z : Int) (w : World) (K R : List UInt8) (Ls P : List (List UInt8)) (hK : K.length = 16) (hR : R.length = 16) (hL : Keys16 Ls) (hP : Keys16 P) (hLl : Ls.length = 3) (hPl : P.length = 2) (hLp : keyParts Ls 0 = [(0, .agg #[.int .u8 1, .int .u8 0, .int .u8 0, .int .u8 0, .int .u8 0, .int .u8 0, .int .u8 0, .int .u8 0, .int .u8 0, .int .u8 0, .int .u8 0, .int .u8 0, .int .u8 0, .int .u8 0, .int .u8 0, .int .u8 0]), (1, .agg (cellsB K).toArray), (2, .agg #[.int .u8 3, .int .u8 0, .int .u8 0, .int .u8 0, .int .u8 0, .int .u8 0, .int .u8 0, .int .u8 0, .int .u8 0, .int .u8 0, .int .u8 0, .int .u8 0, .int .u8 0, .int .u8 0, .int .u8 0, .int .u8 0])])
    (H1 : Hid (∀ W, BR W (some ⟨w.heap.size + 1, 0, none⟩) 4 [0, 1, 1, 0] → Calls Tryz.prog 18 #[.slice (some ⟨w.heap.size + 1, 0, none⟩) 4 4, .agg #[.int .u8 4, .int .u8 0, .int .u8 0, .int .u8 0, .int .u8 0, .int .u8 0, .int .u8 0, .int .u8 0, .int .u8 0, .int .u8 0, .int .u8 0, .int .u8 0, .int .u8 0, .int .u8 0, .int .u8 0, .int .u8 0]] W fun e w' => e = .returned (.tuple #[.agg (cellsB K).toArray, .int .i64 0]) ∧ Below W.heap.size W w'))
    (H2 : Hid (∀ W g, KR W (some ⟨g, 0, none⟩) 3 Ls → Calls Tryz.prog 27 #[.slice (some ⟨g, 0, none⟩) 3 3] W fun e w' => e = .returned (.tuple #[.agg (cellsB R).toArray, .int .i64 0]) ∧ Below W.heap.size W w'))
    (H3 : Hid (∀ W g, KR W (some ⟨g, 0, none⟩) 3 Ls → Calls Tryz.prog 26 #[.slice (some ⟨g, 0, none⟩) 3 3, .int .i64 1] W fun e w' => (∃ A c, e = .returned (.tuple #[.agg #[.int .i64 3, .int .i64 1, .slice A 2 c], .int .i64 0]) ∧ OK16 W.heap.size w' A c P) ∧ Below W.heap.size W w')) : Calls Tryz.prog 60 #[.int .i64 z] w fun e w' => (∃ A c Y y H h, e = .returned (.agg (caseC (⟨R, K, 3, 1, P, [0, 1, 2, 0], z, true, [0, 1, 1, 0], keyN 4⟩ : CV) A 2 c Y 4 y H 4 h).toArray) ∧ CaseOK w' (⟨R, K, 3, 1, P, [0, 1, 2, 0], z, true, [0, 1, 1, 0], keyN 4⟩ : CV) A 2 c Y 4 y H 4 h) ∧ Below w.heap.size w w' := by
  obtain ⟨W0, hW0⟩ : ∃ W, W = ((w.alloc (.cells #[.int .u8 0, .int .u8 0, .int .u8 0, .int .u8 0, .int .u8 0, .int .u8 0, .int .u8 0, .int .u8 0, .int .u8 0, .int .u8 0, .int .u8 0, .int .u8 0, .int .u8 0, .int .u8 0, .int .u8 0, .int .u8 0, .int .u8 0, .int .u8 0, .int .u8 0, .int .u8 0, .int .u8 0, .int .u8 0, .int .u8 0, .int .u8 0, .int .u8 0, .int .u8 0, .int .u8 0, .int .u8 0, .int .u8 0, .int .u8 0, .int .u8 0, .int .u8 0, .int .i64 0, .int .i64 0, .slice none 0 0, .slice none 0 0, .int .i64 0, .bool false, .slice none 0 0, .int .u8 0, .int .u8 0, .int .u8 0, .int .u8 0, .int .u8 0, .int .u8 0, .int .u8 0, .int .u8 0, .int .u8 0, .int .u8 0, .int .u8 0, .int .u8 0, .int .u8 0, .int .u8 0, .int .u8 0, .int .u8 0] 29)).alloc (.cells #[.int .u8 0, .int .u8 1, .int .u8 1, .int .u8 0] 5)).alloc (.cells #[.int .u8 4, .int .u8 0, .int .u8 0, .int .u8 0, .int .u8 0, .int .u8 0, .int .u8 0, .int .u8 0, .int .u8 0, .int .u8 0, .int .u8 0, .int .u8 0, .int .u8 0, .int .u8 0, .int .u8 0, .int .u8 0] 24) := ⟨_, rfl⟩
  have b0 : Below w.heap.size w W0 := by rw [hW0]; exact alloc3_bel w _ _ _
  have R0 : Blk W0 w.heap.size 29 (caseC v0 none 0 0 none 0 0 none 0 0).toArray := by rw [hW0, ← zero55]; exact blk_a0 w _ _ _ _
  have F0 : Blk W0 (w.heap.size + 1) 5 (cellsB [0, 1, 1, 0]).toArray := by rw [hW0, ← half_lit]; exact blk_a1 w _ _ _ _
  have K0 : Blk W0 (w.heap.size + 1 + 1) 24 (cellsB (keyN 4)).toArray := by rw [hW0, ← key4_lit]; exact blk_a2 w _ _ _ _
  have HR := Lib.hid R0
  have HF := Lib.hid F0
  have HK := Lib.hid K0
  have B0 := Lib.hid b0
  have HW0 := Lib.hid hW0
  clear R0 F0 K0 b0 hW0
  have HXL := Lib.hid hK
  have HRL := Lib.hid hR
  have HLL := Lib.hid hLl
  have HPL := Lib.hid hPl
  have HLP := Lib.hid hLp
  have HL := Lib.hid hL
  have HPK := Lib.hid hP
  clear hK hR hL hLl hPl hLp hP
  go_enter Tryz.func60, Tryz.ntmps60
  go_wp2_with (first
    | (go_at_call 18; rw [← HW0.out]; (with_reducible refine (H1.out _ (HF.out.brn rfl (by omega))).mono ?_); rintro e w1 ⟨rfl, hb1⟩; have B1 := Lib.hid (bel_on B0.out hb1); have R1 := Lib.hid (HR.out.below' hb1); have F1 := Lib.hid (HF.out.below' hb1); have K1 := Lib.hid (HK.out.below' hb1); clear hb1)
    | ((first | rw [zero16] | skip); refine wpList_store_row rfl 24 (.tmp 5) (.tmp 18) rfl w1.heap.size (cellsB K).toArray rfl rfl 24 (cellsB zeroK).toArray (Blk.new w1 _ _) (cellsB_size _ HXL.out) (cellsB_sizes _ _ zeroK_length HXL.out) (cellsB_all _) ?_; obtain ⟨W1, hW1⟩ : ∃ W, W = (w1.alloc (.cells (cellsB zeroK).toArray 24)).setRow w1.heap.size (cellsB K).toArray := ⟨_, rfl⟩; rw [← hW1]; obtain ⟨g1, n1⟩ := keybox2_ _ _ _ _ hW1; have B2 := Lib.hid (bel_on B1.out g1); have R2 := Lib.hid (R1.out.below' g1); have F2 := Lib.hid (F1.out.below' g1); have K2 := Lib.hid (K1.out.below' g1); have N2 := Lib.hid n1; clear hW1 g1 n1)
    | (refine wpList_load_row rfl 24 (.tmp 5) rfl w1.heap.size rfl 24 (cellsB K).toArray (0, 0) _ N5.out under_key rfl (cellsB_size _ HXL.out) ?_)
    | (refine wpList_load_row rfl 24 (.tmp 5) rfl w1.heap.size rfl 24 (cellsB K).toArray (0, 0) _ N7.out under_key rfl (cellsB_size _ HXL.out) ?_)
    | (refine wpList_load_row rfl 24 (.tmp 5) rfl w1.heap.size rfl 24 (cellsB K).toArray (0, 0) _ N2.out under_key rfl (cellsB_size _ HXL.out) ?_)
    | (refine wpList_build_keys rfl 3 #[(0, .tmp 20), (1, .tmp 21), (2, .tmp 22)] rfl Ls HL.out HLL.out (by omega) (by omega) (by rw [HLP.out]; kernel_rfl) ?_; obtain ⟨W2, hW2⟩ : ∃ W, W = W1.alloc (.cells (cellsK Ls).toArray 24) := ⟨_, rfl⟩; rw [← hW2]; have g2 : Below W1.heap.size W1 W2 := (by rw [hW2]; exact alloc_bel _ _); have L3 : Hid (KR W2 (some ⟨W1.heap.size, 0, none⟩) 3 Ls) := (by unfold Hid; rw [hW2]; have q := (OK16.litL _ W1 Ls HL.out (Nat.le_refl _) (by rw [HLL.out]; omega)).kr HL.out (by rw [HLL.out]; omega); rw [HLL.out] at q; exact q); have B3 := Lib.hid (bel_on B2.out g2); have R3 := Lib.hid (R2.out.below' g2); have F3 := Lib.hid (F2.out.below' g2); have K3 := Lib.hid (K2.out.below' g2); have N3 := Lib.hid (N2.out.below' g2);  clear hW2 g2)
    | (go_at_call 27; (with_reducible refine (H2.out _ _ L3.out).mono ?_); rintro e w3 ⟨rfl, hb3⟩; have B4 := Lib.hid (bel_on B3.out hb3); have R4 := Lib.hid (R3.out.below' hb3); have F4 := Lib.hid (F3.out.below' hb3); have K4 := Lib.hid (K3.out.below' hb3); have N4 := Lib.hid (N3.out.below' hb3); have L4 := Lib.hid (L3.out.below hb3);  clear hb3)
    | ((first | rw [zero16] | skip); refine wpList_store_row rfl 24 (.tmp 8) (.tmp 27) rfl w3.heap.size (cellsB R).toArray rfl rfl 24 (cellsB zeroK).toArray (Blk.new w3 _ _) (cellsB_size _ HRL.out) (cellsB_sizes _ _ zeroK_length HRL.out) (cellsB_all _) ?_; obtain ⟨W3, hW3⟩ : ∃ W, W = (w3.alloc (.cells (cellsB zeroK).toArray 24)).setRow w3.heap.size (cellsB R).toArray := ⟨_, rfl⟩; rw [← hW3]; obtain ⟨g3, n3⟩ := keybox2_ _ _ _ _ hW3; have M5 := Lib.hid n3; have B5 := Lib.hid (bel_on B4.out g3); have R5 := Lib.hid (R4.out.below' g3); have F5 := Lib.hid (F4.out.below' g3); have K5 := Lib.hid (K4.out.below' g3); have N5 := Lib.hid (N4.out.below' g3); have L5 := Lib.hid (L4.out.below g3);  clear hW3 g3 n3)
    | (go_at_call 26; (with_reducible refine (H3.out _ _ L5.out).mono ?_); rintro e w4 ⟨⟨A, c, rfl, hp4⟩, hb4⟩; have P6 := Lib.hid (hp4.le_ (Nat.succ_le_of_lt R5.out.lt)); have B6 := Lib.hid (bel_on B5.out hb4); have R6 := Lib.hid (R5.out.below' hb4); have F6 := Lib.hid (F5.out.below' hb4); have K6 := Lib.hid (K5.out.below' hb4); have N6 := Lib.hid (N5.out.below' hb4); have M6 := Lib.hid (M5.out.below' hb4);  clear hb4 hp4)
    | (refine wpList_store_row rfl 27 (.tmp 10) (.tmp 32) rfl w4.heap.size #[.int .i64 3, .int .i64 1, .slice A 2 c] rfl rfl 27 #[.int .i64 0, .int .i64 0, .slice none 0 0] (Blk.new w4 _ _) (by kernel_rfl) rfl (by simp [Value.oneCell']) ?_; obtain ⟨W4, hW4⟩ : ∃ W, W = (w4.alloc (.cells #[.int .i64 0, .int .i64 0, .slice none 0 0] 27)).setRow w4.heap.size #[.int .i64 3, .int .i64 1, .slice A 2 c] := ⟨_, rfl⟩; rw [← hW4]; obtain ⟨g4, n4⟩ := keybox2_ _ _ _ _ hW4; have Q7 := Lib.hid n4; have B7 := Lib.hid (bel_on B6.out g4); have R7 := Lib.hid (R6.out.below' g4); have F7 := Lib.hid (F6.out.below' g4); have K7 := Lib.hid (K6.out.below' g4); have N7 := Lib.hid (N6.out.below' g4); have M7 := Lib.hid (M6.out.below' g4); have P7 := Lib.hid (P6.out.below g4);  clear hW4 g4 n4)
    | (refine wpList_load_row rfl 24 (.tmp 8) rfl w3.heap.size rfl 24 (cellsB R).toArray (0, 0) _ M7.out under_key rfl (cellsB_size _ HRL.out) ?_)
    | (refine wpList_load_row rfl 27 (.tmp 10) rfl w4.heap.size rfl 27 #[.int .i64 3, .int .i64 1, .slice A 2 c] (0, 0) _ Q7.out Tryz.underlying27 rfl (by kernel_rfl) ?_)
    | (obtain ⟨W5, hW5⟩ : ∃ W, W = W4.alloc (.cells #[.int .u8 0, .int .u8 1, .int .u8 2, .int .u8 0] 5) := ⟨_, rfl⟩; rw [← hW5]; have g5 : Below W4.heap.size W4 W5 := (by rw [hW5]; exact alloc_bel _ _); have Y8 : Hid (Blk W5 W4.heap.size 5 (cellsB [0, 1, 2, 0]).toArray) := (by unfold Hid; rw [hW5, copy_lit]; exact Blk.new W4 _ _); have GT := Lib.hid R7.out.lt; have B8 := Lib.hid (bel_on B7.out g5); have R8 := Lib.hid (R7.out.below' g5); have F8 := Lib.hid (F7.out.below' g5); have K8 := Lib.hid (K7.out.below' g5); have N8 := Lib.hid (N7.out.below' g5); have M8 := Lib.hid (M7.out.below' g5); have P8 := Lib.hid (P7.out.below g5);  clear hW5 g5; refine wpList_load_row rfl 24 (.tmp 4) rfl (w.heap.size + 1 + 1) rfl 24 (cellsB (keyN 4)).toArray (0, 0) _ K8.out under_key rfl (cellsB_size _ (keyN_length 4)) ?_)
    | (refine wpList_build_case rfl #[(0, .tmp 34), (1, .tmp 35), (2, .tmp 36), (3, .tmp 37), (4, .tmp 38), (5, .const (.bool true)), (6, .tmp 39), (7, .tmp 40)] rfl (some 41) rfl (⟨R, K, 3, 1, P, [0, 1, 2, 0], z, true, [0, 1, 1, 0], keyN 4⟩ : CV) A 2 c (some ⟨W4.heap.size, 0, none⟩) 4 4 (some ⟨w.heap.size + 1, 0, none⟩) 4 4 HRL.out HXL.out (keyN_length 4) (by kernel_rfl) ?_)
    | (refine wpList_store_row rfl 29 (.tmp 2) (.tmp 41) rfl w.heap.size (caseC (⟨R, K, 3, 1, P, [0, 1, 2, 0], z, true, [0, 1, 1, 0], keyN 4⟩ : CV) A 2 c (some ⟨W4.heap.size, 0, none⟩) 4 4 (some ⟨w.heap.size + 1, 0, none⟩) 4 4).toArray rfl rfl 29 (caseC v0 none 0 0 none 0 0 none 0 0).toArray R8.out (case_info HRL.out HXL.out (keyN_length 4)) (by rw [List.size_toArray, List.size_toArray, caseC_length (v := (⟨R, K, 3, 1, P, [0, 1, 2, 0], z, true, [0, 1, 1, 0], keyN 4⟩ : CV)) HRL.out HXL.out (keyN_length 4)]; rfl) (by simpa using caseC_all _ _ _ _ _ _ _ _ _ _) ?_; obtain ⟨W6, hW6⟩ : ∃ W, W = W5.setRow w.heap.size (caseC (⟨R, K, 3, 1, P, [0, 1, 2, 0], z, true, [0, 1, 1, 0], keyN 4⟩ : CV) A 2 c (some ⟨W4.heap.size, 0, none⟩) 4 4 (some ⟨w.heap.size + 1, 0, none⟩) 4 4).toArray := ⟨_, rfl⟩; rw [← hW6]; have HW6 := Lib.hid hW6; clear hW6))
  have RZ : Hid (Blk W6 w.heap.size 29 (caseC (⟨R, K, 3, 1, P, [0, 1, 2, 0], z, true, [0, 1, 1, 0], keyN 4⟩ : CV) A 2 c (some ⟨W4.heap.size, 0, none⟩) 4 4 (some ⟨w.heap.size + 1, 0, none⟩) 4 4).toArray) := (by unfold Hid; rw [HW6.out]; exact R8.out.setRow _)
  have OKZ : Hid (CaseOK W6 (⟨R, K, 3, 1, P, [0, 1, 2, 0], z, true, [0, 1, 1, 0], keyN 4⟩ : CV) A 2 c (some ⟨W4.heap.size, 0, none⟩) 4 4 (some ⟨w.heap.size + 1, 0, none⟩) 4 4) := (by unfold Hid; rw [HW6.out]; exact ⟨HRL.out, HXL.out, keyN_length 4, HPL.out, rfl, rfl, (OK16.low_ P8.out (Nat.lt_succ_self _) _).kr HPK.out (by rw [HPL.out]; omega), (Blk.other_ Y8.out (by have := GT.out; omega) _).brn rfl (by omega), (Blk.other_ F8.out (by omega) _).brn rfl (by omega)⟩)
  have BZ : Hid (Below w.heap.size w W6) := (by unfold Hid; rw [HW6.out]; exact below_setRow B8.out (Nat.le_refl _) _)
  refine bodyPost_ret (results_cell_row rfl _ _ w.heap.size _ _ (0, 0) _ rfl RZ.out Tryz.underlying29 rfl (case_info HRL.out HXL.out (keyN_length 4))) rfl ⟨⟨A, c, _, _, _, _, rfl, OKZ.out⟩, BZ.out⟩
end Go.Proofs.YtinpiodfpnbllaaGreatDoor

/- The examples' case: the law's function makes it. -/
namespace Go.Proofs.YtinpiodfpnbllaaGreatDoor
open Go.RowKit
set_option linter.unusedVariables false
set_option linter.unusedSimpArgs false

theorem exL_parts : keyParts exL 0 = [(0, .agg (cellsB (keyN 1)).toArray), (1, .agg (cellsB exK).toArray), (2, .agg (cellsB (keyN 3)).toArray)] := by simp [keyParts, exL]
set_option maxRecDepth 100000 in
theorem example_any (z : Int) (w : World) : Calls Tryz.prog 60 #[.int .i64 z] w fun e w' => (∃ A c Y y H h, e = .returned (.agg (caseC (exV z) A 2 c Y 4 y H 4 h).toArray) ∧ CaseOK w' (exV z) A 2 c Y 4 y H 4 h) ∧ Below w.heap.size w w' := by
  refine example_in z w exK (rootS exL) exL (pathS exL 1) exK_length (rootS_length _) exL_16 (pathS_k16_ 3 exL 1 rfl) rfl ex_path (by rw [exL_parts]; rfl) ?_ ?_ ?_
  · intro W h
    have := Commit_any [0, 1, 1, 0] (keyN 4) _ _ W rfl (keyN_length 4) h
    rw [ex_commit] at this
    exact this
  · intro W g h
    have := Root_any exL _ _ W rfl h
    rwa [ex_root] at this
  · intro W g h
    refine (Prove_any exL 1 _ _ W rfl h).mono fun e w' hh => ?_
    rw [ex_prove] at hh
    obtain ⟨⟨A', c', he, ho⟩, hb⟩ := hh
    rw [ex_path] at he
    exact ⟨⟨A', c', he, ho⟩, hb⟩
end Go.Proofs.YtinpiodfpnbllaaGreatDoor

/- The examples that each of the laws asks first hold. -/
namespace Go.Proofs.YtinpiodfpnbllaaGreatDoor
open Go.RowKit
set_option linter.unusedVariables false
set_option linter.unusedSimpArgs false

theorem proved_plain {l : List (List UInt8)} {i : Nat} {n : Nat} (hn : l.length = n) (hi : i < n) (h128 : n ≤ 128) : verS (rootS l) (l.getD i []) (n : Int) (i : Int) (pathS l i) = (true, 0) := by
  unfold verS
  have hf : fitsB (n : Int) (i : Int) (pathS l i).length = true := fitsB_iff.2 ⟨⟨by omega, by omega, by omega, by omega⟩, by rw [Int.toNat_natCast, Int.toNat_natCast, pathS_steps n l i hn]⟩
  rw [if_pos hf, Int.toNat_natCast, Int.toNat_natCast, climb_path n l i hn hi, beq_self_eq_true]
def alL : List (List UInt8) := [keyN 1, keyN 2, keyN 3]
theorem alL_16 : Keys16 alL := fun k hk => by
  simp only [alL, List.mem_cons, List.not_mem_nil, or_false] at hk
  rcases hk with rfl | rfl | rfl <;> exact keyN_length _
theorem al_root : rtS alL = (rootS alL, 0) := by unfold rtS; simp [alL]
theorem al_root2 : rtS (alL.take 2) = (rootS (alL.take 2), 0) := by unfold rtS; simp [alL]
theorem al_root1 : rtS (alL.drop 2) = (rootS (alL.drop 2), 0) := by unfold rtS; simp [alL]
theorem al_split : splitS 3 = 2 := by decide +kernel
theorem al_prove : proveS alL 2 = ⟨3, 2, pathS alL 2, 0⟩ := by unfold proveS; simp [alL]
theorem al_path : pathS alL 2 = [rootS (alL.take 2)] := by
  rw [pathS_high (by simp [alL]) (by show ¬ 2 < splitS 3; rw [al_split]; omega)]
  show pathS (alL.drop (splitS 3)) (2 - splitS 3) ++ [rootS (alL.take (splitS 3))] = _
  rw [al_split, pathS_one (by simp [alL])]
  rfl
theorem al_top : rootS alL = digS (nodeX (rootS (alL.take 2)) (rootS (alL.drop 2))) := by
  rw [rootS_node (by simp [alL])]
  show digS (nodeT (rootS (alL.take (splitS 3))) (rootS (alL.drop (splitS 3)))) = _
  rw [al_split]
  rfl
theorem al_verify : verS (rootS alL) (keyN 3) 3 2 [rootS (alL.take 2)] = (true, 0) := by
  have h := proved_plain (l := alL) (i := 2) (n := 3) rfl (by omega) (by omega)
  rw [al_path] at h
  exact h
theorem al_chance : mcS 3 2 = (lowS 1 2, 0) := by decide +kernel
theorem frac2_open_ {W w' : World} {e : Ending} {r : (List Nat × List Nat) × Int} (h : Frac2 W w' e r) : ∃ X x Z z, e = .returned (.tuple #[.agg #[.slice X r.1.1.length x, .slice Z r.1.2.length z], .int .i64 r.2]) ∧ NR w' X x r.1.1 ∧ NR w' Z z r.1.2 ∧ Below W.heap.size W w' := by
  obtain ⟨v, rfl, X, x, Z, z, rfl, h1, h2, _, hb⟩ := h
  exact ⟨X, x, Z, z, rfl, h1.nr_, h2.nr_, hb⟩
theorem example_judge {z : Int} (v : Int) (hv : judgeS (exV z) = (v, 0)) (W : World) (hT : TestsIn W) : Calls Tryz.prog 60 #[.int .i64 z] W fun e w' => (∃ V, e = .returned V ∧ Calls Tryz.prog 23 #[V] w' fun e w'' => e = .returned (.tuple #[.int .u8 v, .int .i64 0]) ∧ Below w'.heap.size w' w'') ∧ Below W.heap.size W w' :=
  (example_any z W).mono fun e w' ⟨⟨A, c, Y, y, H, h, he, hok⟩, hb⟩ => ⟨⟨_, he, by
    have := Judge_any (exV z) A 2 c Y 4 y H 4 h w' hok (range_below hT hb)
    rwa [hv] at this⟩, hb⟩
set_option maxRecDepth 100000 in
theorem alive_any (w : World) (hT : TestsIn w) : Calls Tryz.prog 25 #[] w fun e w' => e = .returned (.bool true) ∧ Below w.heap.size w w' := by
  refine alive_in TestsIn w (keyN 1) (keyN 2) (keyN 3) (rootS alL) (rootS (alL.take 2)) (rootS (alL.drop 2)) (nodeX (rootS (alL.take 2)) (rootS (alL.drop 2))) alL [(1, 5), (2, 9), (3, 2)] rfl #[] (digs 1) (digs 2) (lowS 1 2).1 (lowS 1 2).2 (digs 1).length (digs 2).length (lowS 1 2).1.length (lowS 1 2).2.length
    (keyN_length 1) (keyN_length 2) (keyN_length 3) (rootS_length _) (rootS_length _) (rootS_length _) rfl rfl rfl ?_ ?_ ?_ ?_ ?_ ?_ ?_ ?_ ?_ ?_ ?_ ?_ ?_ ?_ ?_ ?_ ?_ ?_
  · intro W g h
    have := Root_any alL _ _ W rfl h
    rwa [al_root] at this
  · intro W g h
    have := Root_any (alL.take 2) _ _ W rfl (h.take 2 (by simp [alL]))
    rwa [al_root2] at this
  · intro W g h
    have := Root_any (alL.drop 2) _ _ W rfl (h.drop 2 (by simp [alL]))
    rwa [al_root1] at this
  · intro W g h
    refine (Prove_any alL 2 _ _ W rfl h).mono fun e w' hh => ?_
    rw [al_prove, al_path] at hh
    obtain ⟨⟨A', c', he, ho⟩, hb⟩ := hh
    have hk := ho.kr (fun k hk => by rw [List.mem_singleton.1 hk]; exact rootS_length _) (by simp)
    obtain ⟨b, o, rfl, _, _⟩ := hk.at_ (i := 0) (by simp)
    exact ⟨⟨b, o, c', he, hk⟩, hb⟩
  · intro W pb po pc h
    have := Verify_any (rootS alL) (keyN 3) 3 2 [rootS (alL.take 2)] _ _ W rfl (rootS_length _) (keyN_length 3) h
    rwa [al_verify] at this
  · intro W
    exact (lawText_any _ _ W (rootS_length _) (rootS_length _)).mono fun e w' ⟨⟨A, c, he, ho⟩, hb⟩ => ⟨⟨A, c, he, ho.br (by unfold nodeX; simp [rootS_length])⟩, hb⟩
  · intro W A c h
    have := lawDigest_any _ A c W (L := 33) (by unfold nodeX; simp [rootS_length]) h (by omega)
    rwa [← al_top] at this
  · intro W
    exact (merged_any W).mono fun e w' ⟨⟨X, x, he, ho⟩, hb⟩ => ⟨⟨X, x, he, ho.er (by simp)⟩, hb⟩
  · exact fun W hW => range_below hT hW
  · exact fun W hW => example_judge 3 ex_guilty W hW
  · exact fun W hW => example_judge 4 ex_framed W hW
  · intro W
    have := MatchChance_any 3 2 W
    rw [al_chance] at this
    exact this.mono fun e w' h => frac2_open_ h
  · intro W
    exact refOfD_any 1 W (by omega)
  · intro W
    exact refOfD_any 2 W (by omega)
  · intro W A x B y h1 h2
    refine (lowestD_any (sm_small (by omega)) (sm_small (by omega)) (by omega) rfl rfl h1 h2).mono fun e w' h => ?_
    obtain ⟨v, rfl, X, x, Z, z, rfl, h1, h2, _, hb⟩ := h
    exact ⟨X, x, Z, z, rfl, h1.nr_, h2.nr_, hb⟩
  · intro W X x Z z X' x' Z' z' a1 a2 a3 a4
    have := SameFraction_any X x _ Z z _ X' x' _ Z' z' _ W rfl rfl rfl rfl a1 a2 a3 a4
    rwa [sameB_self, sameB_self] at this
  · intro W X x Z z h1 h2
    exact sameEnts_any _ X x Z z W rfl h1 h2
  · intro W
    exact (OE.lit W.heap.size W [(1, 5), (2, 9), (3, 2)] (Nat.le_refl _) (by simp) (n := 3) rfl).er (by simp)
end Go.Proofs.YtinpiodfpnbllaaGreatDoor
