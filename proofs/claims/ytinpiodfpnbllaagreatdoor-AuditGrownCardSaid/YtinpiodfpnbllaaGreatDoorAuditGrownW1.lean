/-
  Lemmas and contracts, joined.
-/
import Derived.Test.YtinpiodfpnbllaaGreatDoorAuE1
import Derived.Test.YtinpiodfpnbllaaGreatDoorAuG1
import Derived.Test.YtinpiodfpnbllaaGreatDoorAuG2
set_option linter.unusedSimpArgs false
set_option linter.unusedVariables false
set_option linter.unnecessarySimpa false
/- The law AuditGrown: the walk. -/
namespace Go.Proofs.YtinpiodfpnbllaaGreatDoor
open Go.RowKit
set_option linter.unusedVariables false
set_option linter.unusedSimpArgs false

theorem grown_plain {l : List (List UInt8)} {m n : Nat} (hn : l.length = n) (h1 : 1 ≤ m) (hm : m ≤ n) (h128 : n ≤ 128) : vgS (rootS (l.take m)) (rootS l) (m : Int) (n : Int) (partS l m true) = (true, 0) := by
  unfold vgS
  have hf : fitsGB (m : Int) (n : Int) (partS l m true).length = true := fitsGB_iff.2 ⟨⟨by omega, by omega, by omega⟩, by rw [Int.toNat_natCast, Int.toNat_natCast, partS_parts n l m true hn h1 hm]⟩
  obtain ⟨e1, e2⟩ := grow_part n l m true (rootS (l.take m)) hn h1 hm (fun _ => rfl)
  rw [if_pos hf, Int.toNat_natCast, Int.toNat_natCast, e1, e2, beq_self_eq_true, beq_self_eq_true]
  rfl

set_option maxHeartbeats 4000000 in
set_option maxRecDepth 100000 in
theorem auditGrown_bad (ks : List (List UInt8)) (i : Int) (A : Option Addr) (c : Nat) (w : World) {n : Nat} (hn : ks.length = n) (h : KR w A c ks) (HA : Hid (Calls Tryz.prog 25 #[] w fun e w' => e = .returned (.bool true) ∧ Below w.heap.size w w')) (hbad : 128 < n ∨ i < 1 ∨ (n : Int) < i) :
    Calls Tryz.prog 13 #[.slice A n c, .int .i64 i] w fun e w' => e = .returned (.bool true) ∧ Below w.heap.size w w' := by
  have hnl : (n : Int) ≤ 140737488351232 := by have := h.len; omega
  have HP : Hid (∃ e0 : Int, (e0 = 4 ∨ e0 = 2) ∧ ∀ W, Below w.heap.size w W → Calls Tryz.prog 52 #[.slice A n c, .int .i64 i] W fun e w' => (∃ A' c', e = .returned (.tuple #[.agg #[.int .i64 0, .int .i64 0, .slice A' 0 c'], .int .i64 e0])) ∧ Below W.heap.size W w') := by
    rcases Nat.lt_or_ge 128 n with hw | hw
    · refine ⟨4, .inl rfl, fun W hW => (ProveGrowth_any ks i A c W hn (h.below hW)).mono fun e w' hh => ?_⟩
      have e1 : growthS ks i = ⟨0, 0, [], 4⟩ := by unfold growthS; rw [if_pos (by omega)]
      rw [e1] at hh
      obtain ⟨⟨A', c', he, _⟩, hb⟩ := hh
      exact ⟨⟨A', c', he⟩, hb⟩
    · refine ⟨2, .inr rfl, fun W hW => (ProveGrowth_any ks i A c W hn (h.below hW)).mono fun e w' hh => ?_⟩
      have e1 : growthS ks i = ⟨0, 0, [], 2⟩ := by unfold growthS; rw [if_neg (by omega), if_pos (by omega)]
      rw [e1] at hh
      obtain ⟨⟨A', c', he, _⟩, hb⟩ := hh
      exact ⟨⟨A', c', he⟩, hb⟩
  obtain ⟨e0, he0, hp⟩ := HP.out
  have HP2 := Lib.hid hp
  clear HP hp h hn
  have hb2 : (128 < (n : Int)) ∨ i < 1 ∨ (n : Int) < i := by omega
  clear hbad
  go_enter Tryz.func13, Tryz.ntmps13
  go_wp2_with (first
    | (go_at_call 25; (with_reducible refine (HA.out).mono ?_); rintro e w1 ⟨rfl, hb1⟩; have D1 := Lib.hid hb1; clear hb1)
    | (go_at_call 52; (with_reducible refine (HP2.out _ D1.out).mono ?_); rintro e w2 ⟨⟨A2, c2, rfl⟩, hb2⟩; have D2 := Lib.hid (bel_on D1.out hb2); clear hb2)
    | (refine wpList_store_row rfl 80 (.tmp 6) (.tmp 19) rfl w2.heap.size #[.int .i64 0, .int .i64 0, .slice A2 0 c2] rfl rfl 80 #[.int .i64 0, .int .i64 0, .slice none 0 0] (Blk.new w2 _ _) (by kernel_rfl) rfl (by simp [Value.oneCell']) ?_; obtain ⟨W2, hV⟩ : ∃ W, W = (w2.alloc (.cells #[.int .i64 0, .int .i64 0, .slice none 0 0] 80)).setRow w2.heap.size #[.int .i64 0, .int .i64 0, .slice A2 0 c2] := ⟨_, rfl⟩; rw [← hV]; obtain ⟨gb, nb⟩ := keybox2_ _ _ _ _ hV; have D3 := Lib.hid (bel_on D2.out gb); have Q3 := Lib.hid nb; clear hV gb nb))
  all_goals (rcases he0 with rfl | rfl <;> first | omega | (go_ret; exact ⟨rfl, D3.out⟩))

set_option maxHeartbeats 8000000 in
set_option maxRecDepth 100000 in
theorem auditGrown_good (ks : List (List UInt8)) (m : Nat) (A : Option Addr) (c : Nat) (w : World) {n : Nat} (hn : ks.length = n) (h : KR w A c ks) (HA : Hid (Calls Tryz.prog 25 #[] w fun e w' => e = .returned (.bool true) ∧ Below w.heap.size w w')) (h128 : n ≤ 128) (h1 : 1 ≤ m) (hm : m ≤ n) :
    Calls Tryz.prog 13 #[.slice A n c, .int .i64 (m : Int)] w fun e w' => e = .returned (.bool true) ∧ Below w.heap.size w w' := by
  have hni : (n : Int) ≤ 128 := by omega
  have hm1 : (1 : Int) ≤ m := by omega
  have hmn : (m : Int) ≤ n := by omega
  have hcc : n ≤ c := by have := h.1.1.2.1; omega
  have hsl := fun W => slice_keys_to W A n c m (by omega)
  have HP : Hid (∀ W, Below w.heap.size w W → Calls Tryz.prog 52 #[.slice A n c, .int .i64 (m : Int)] W fun e w' => (∃ A' c', e = .returned (.tuple #[.agg #[.int .i64 (m : Int), .int .i64 (n : Int), .slice A' (partS ks m true).length c'], .int .i64 0]) ∧ KR w' A' c' (partS ks m true)) ∧ Below W.heap.size W w') := fun W hW => (ProveGrowth_any ks m A c W hn (h.below hW)).mono fun e w' hh => by
    have e1 : growthS ks m = ⟨m, n, partS ks m true, 0⟩ := by unfold growthS; rw [if_neg (by omega), if_neg (by omega), hn, Int.toNat_natCast]
    rw [e1] at hh
    obtain ⟨⟨A', c', he, ho⟩, hbb⟩ := hh
    exact ⟨⟨A', c', he, ho.kr (partS_k16_ n ks m true hn) (by have := partS_le ks m true; dsimp only; omega)⟩, hbb⟩
  have HRB : Hid (∀ W, Below w.heap.size w W → Calls Tryz.prog 27 #[.slice A m c] W fun e w' => e = .returned (.tuple #[.agg (cellsB (rootS (ks.take m))).toArray, .int .i64 0]) ∧ Below W.heap.size W w') := fun W hW => (Root_any (ks.take m) A c W (n := m) (by rw [List.length_take]; omega) ((h.take m (by omega)).below hW)).mono fun e w' hh => by
    have e1 : rtS (ks.take m) = (rootS (ks.take m), 0) := by unfold rtS; rw [if_neg (by rw [List.length_take]; omega)]
    rwa [e1] at hh
  have HRT : Hid (∀ W, Below w.heap.size w W → Calls Tryz.prog 27 #[.slice A n c] W fun e w' => e = .returned (.tuple #[.agg (cellsB (rootS ks)).toArray, .int .i64 0]) ∧ Below W.heap.size W w') := fun W hW => (Root_any ks A c W hn (h.below hW)).mono fun e w' hh => by
    have e1 : rtS ks = (rootS ks, 0) := by unfold rtS; rw [if_neg (by omega)]
    rwa [e1] at hh
  have HV : Hid (∀ W A' c', KR W A' c' (partS ks m true) → Calls Tryz.prog 43 #[.agg (cellsB (rootS (ks.take m))).toArray, .agg (cellsB (rootS ks)).toArray, .agg #[.int .i64 (m : Int), .int .i64 (n : Int), .slice A' (partS ks m true).length c']] W fun e w' => e = .returned (.tuple #[.bool true, .int .i64 0]) ∧ Below W.heap.size W w') := fun W A' c' hk => by
    have := VerifyGrowth_any (rootS (ks.take m)) (rootS ks) m n (partS ks m true) A' c' W rfl (rootS_length _) (rootS_length _) hk
    rwa [grown_plain hn h1 hm h128] at this
  have HRL : Hid ((rootS ks).length = 16) := rootS_length _
  have HXL : Hid ((rootS (ks.take m)).length = 16) := rootS_length _
  clear h
  generalize rootS (ks.take m) = X at HRB HV HXL
  generalize rootS ks = R at HRT HV HRL
  generalize partS ks m true = P at HP HV
  generalize P.length = q at HP HV
  clear hn h1 hm h128
  go_enter Tryz.func13, Tryz.ntmps13
  go_wp2_with (first
    | (go_at_call 25; (with_reducible refine (HA.out).mono ?_); rintro e w1 ⟨rfl, hb1⟩; have D1 := Lib.hid hb1; clear hb1)
    | (go_at_call 52; (with_reducible refine (HP.out _ D1.out).mono ?_); rintro e w2 ⟨⟨A2, c2, rfl, hp2⟩, hb2⟩; have D2 := Lib.hid (bel_on D1.out hb2); have P2 := Lib.hid hp2; clear hb2 hp2)
    | (refine wpList_store_row rfl 80 (.tmp 6) (.tmp 19) rfl w2.heap.size #[.int .i64 (m : Int), .int .i64 (n : Int), .slice A2 q c2] rfl rfl 80 #[.int .i64 0, .int .i64 0, .slice none 0 0] (Blk.new w2 _ _) (by kernel_rfl) rfl (by simp [Value.oneCell']) ?_; obtain ⟨W2, hV⟩ : ∃ W, W = (w2.alloc (.cells #[.int .i64 0, .int .i64 0, .slice none 0 0] 80)).setRow w2.heap.size #[.int .i64 (m : Int), .int .i64 (n : Int), .slice A2 q c2] := ⟨_, rfl⟩; rw [← hV]; obtain ⟨gb, nb⟩ := keybox2_ _ _ _ _ hV; have D3 := Lib.hid (bel_on D2.out gb); have Q3 := Lib.hid nb; have P3 := Lib.hid (P2.out.below gb); clear hV gb nb)
    | (go_at_call 27; (with_reducible refine (HRB.out _ D3.out).mono ?_); rintro e w4 ⟨rfl, hb⟩; have D4 := Lib.hid (bel_on D3.out hb); have P4 := Lib.hid (P3.out.below hb); have Q4 := Lib.hid (Q3.out.below' hb); clear hb)
    | ((first | rw [zero16] | skip); refine wpList_store_row rfl 24 (.tmp 8) (.tmp 48) rfl w4.heap.size (cellsB X).toArray rfl rfl 24 (cellsB zeroK).toArray (Blk.new w4 _ _) (cellsB_size _ HXL.out) (cellsB_sizes _ _ zeroK_length HXL.out) (cellsB_all _) ?_; obtain ⟨W5, hV⟩ : ∃ W, W = (w4.alloc (.cells (cellsB zeroK).toArray 24)).setRow w4.heap.size (cellsB X).toArray := ⟨_, rfl⟩; rw [← hV]; obtain ⟨gb, nb⟩ := keybox2_ _ _ _ _ hV; have D5 := Lib.hid (bel_on D4.out gb); have P5 := Lib.hid (P4.out.below gb); have Q5 := Lib.hid (Q4.out.below' gb); have X5 := Lib.hid nb; clear hV gb nb)
    | (go_at_call 27; (with_reducible refine (HRT.out _ D5.out).mono ?_); rintro e w6 ⟨rfl, hb⟩; have D6 := Lib.hid (bel_on D5.out hb); have P6 := Lib.hid (P5.out.below hb); have Q6 := Lib.hid (Q5.out.below' hb); have X6 := Lib.hid (X5.out.below' hb); clear hb)
    | ((first | rw [zero16] | skip); refine wpList_store_row rfl 24 (.tmp 10) (.tmp 53) rfl w6.heap.size (cellsB R).toArray rfl rfl 24 (cellsB zeroK).toArray (Blk.new w6 _ _) (cellsB_size _ HRL.out) (cellsB_sizes _ _ zeroK_length HRL.out) (cellsB_all _) ?_; obtain ⟨W7, hV⟩ : ∃ W, W = (w6.alloc (.cells (cellsB zeroK).toArray 24)).setRow w6.heap.size (cellsB R).toArray := ⟨_, rfl⟩; rw [← hV]; obtain ⟨gb, nb⟩ := keybox2_ _ _ _ _ hV; have D7 := Lib.hid (bel_on D6.out gb); have P7 := Lib.hid (P6.out.below gb); have Q7 := Lib.hid (Q6.out.below' gb); have X7 := Lib.hid (X6.out.below' gb); have R7 := Lib.hid nb; clear hV gb nb)
    | (refine wpList_load_row rfl 24 (.tmp 8) rfl w4.heap.size rfl 24 (cellsB X).toArray (0, 0) _ X7.out under_key rfl (cellsB_size _ HXL.out) ?_)
    | (refine wpList_load_row rfl 24 (.tmp 10) rfl w6.heap.size rfl 24 (cellsB R).toArray (0, 0) _ R7.out under_key rfl (cellsB_size _ HRL.out) ?_)
    | (refine wpList_load_row rfl 80 (.tmp 6) rfl w2.heap.size rfl 80 #[.int .i64 (m : Int), .int .i64 (n : Int), .slice A2 q c2] (0, 0) _ Q7.out Tryz.underlying80 rfl (by kernel_rfl) ?_)
    | (go_at_call 43; (with_reducible refine (HV.out _ _ _ P7.out).mono ?_); rintro e w8 ⟨rfl, hb8⟩; have D8 := Lib.hid (bel_on D7.out hb8); have k0 : w8.cell? ⟨w2.heap.size, 0, none⟩ = some (.int .i64 (m : Int)) := (Q7.out.below' hb8).cell 0; have k1 : w8.cell? ⟨w2.heap.size, 1, none⟩ = some (.int .i64 (n : Int)) := (Q7.out.below' hb8).cell 1; clear hb8))
  go_ret
  exact ⟨rfl, D8.out⟩
theorem auditGrown_walk (A : Option Addr) (c : Nat) (ks : List (List UInt8)) (i : Int) (w : World) (h : KR w A c ks) (hc : c * 16 ≤ 140737488351232) (_ : -9223372036854775808 ≤ i) (_ : i ≤ 9223372036854775807) (hT : TestsIn w) :
    Calls Tryz.prog 13 #[.slice A ks.length c, .int .i64 i] w fun e w' => e = .returned (.bool true) ∧ Below w.heap.size w w' := by
  have HA := Lib.hid (alive_any w hT)
  by_cases hbad : 128 < ks.length ∨ i < 1 ∨ (ks.length : Int) < i
  · exact auditGrown_bad ks i A c w rfl h HA hbad
  · obtain ⟨j, rfl⟩ : ∃ j : Nat, i = (j : Int) := ⟨i.toNat, by omega⟩
    exact auditGrown_good ks j A c w rfl h HA (by omega) (by omega) (by omega)
end Go.Proofs.YtinpiodfpnbllaaGreatDoor
