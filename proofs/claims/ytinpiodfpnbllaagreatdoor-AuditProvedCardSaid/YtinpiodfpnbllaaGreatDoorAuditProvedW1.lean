/-
  Lemmas and contracts, joined.
-/
import Derived.Test.YtinpiodfpnbllaaGreatDoorAuB4
import Derived.Test.YtinpiodfpnbllaaGreatDoorAuE1
import Derived.Test.YtinpiodfpnbllaaGreatDoorAuB3
import Derived.Test.YtinpiodfpnbllaaGreatDoorAuB2
set_option linter.unusedSimpArgs false
set_option linter.unusedVariables false
set_option linter.unnecessarySimpa false
/- The law AuditProved: the walk. -/
namespace Go.Proofs.YtinpiodfpnbllaaGreatDoor
open Go.RowKit
set_option linter.unusedVariables false
set_option linter.unusedSimpArgs false


set_option maxHeartbeats 4000000 in
set_option maxRecDepth 100000 in
theorem auditProved_bad (ks : List (List UInt8)) (i : Int) (A : Option Addr) (c : Nat) (w : World) {n : Nat} (hn : ks.length = n) (h : KR w A c ks) (HA : Hid (Calls Tryz.prog 25 #[] w fun e w' => e = .returned (.bool true) ∧ Below w.heap.size w w')) (hbad : 128 < n ∨ i < 0 ∨ (n : Int) ≤ i) :
    Calls Tryz.prog 4 #[.slice A n c, .int .i64 i] w fun e w' => e = .returned (.bool true) ∧ Below w.heap.size w w' := by
  have hnl : (n : Int) ≤ 140737488351232 := by have := h.len; omega
  have HP : Hid (∃ e0 : Int, (e0 = 4 ∨ e0 = 2) ∧ ∀ W, Below w.heap.size w W → Calls Tryz.prog 26 #[.slice A n c, .int .i64 i] W fun e w' => (∃ A' c', e = .returned (.tuple #[.agg #[.int .i64 0, .int .i64 0, .slice A' 0 c'], .int .i64 e0])) ∧ Below W.heap.size W w') := by
    rcases Nat.lt_or_ge 128 n with hw | hw
    · refine ⟨4, .inl rfl, fun W hW => (Prove_any ks i A c W hn (h.below hW)).mono fun e w' hh => ?_⟩
      have e1 : proveS ks i = ⟨0, 0, [], 4⟩ := by unfold proveS; rw [if_pos (by omega)]
      rw [e1] at hh
      obtain ⟨⟨A', c', he, _⟩, hb⟩ := hh
      exact ⟨⟨A', c', he⟩, hb⟩
    · refine ⟨2, .inr rfl, fun W hW => (Prove_any ks i A c W hn (h.below hW)).mono fun e w' hh => ?_⟩
      have e1 : proveS ks i = ⟨0, 0, [], 2⟩ := by unfold proveS; rw [if_neg (by omega), if_pos (by omega)]
      rw [e1] at hh
      obtain ⟨⟨A', c', he, _⟩, hb⟩ := hh
      exact ⟨⟨A', c', he⟩, hb⟩
  obtain ⟨e0, he0, hp⟩ := HP.out
  have HP2 := Lib.hid hp
  clear HP hp h hn
  have hb2 : (128 < (n : Int)) ∨ i < 0 ∨ (n : Int) ≤ i := by omega
  clear hbad
  go_enter Tryz.func4, Tryz.ntmps4
  go_wp2_with (first
    | (go_at_call 25; refine (HA.out).mono ?_; rintro e w1 ⟨rfl, hb1⟩; have D1 := Lib.hid hb1; clear hb1)
    | (go_at_call 26; refine (HP2.out _ D1.out).mono ?_; rintro e w2 ⟨⟨A2, c2, rfl⟩, hb2⟩; have D2 := Lib.hid (bel_on D1.out hb2); clear hb2)
    | (refine wpList_store_row rfl 27 (.tmp 6) (.tmp 17) rfl w2.heap.size #[.int .i64 0, .int .i64 0, .slice A2 0 c2] rfl rfl 27 #[.int .i64 0, .int .i64 0, .slice none 0 0] (Blk.new w2 _ _) (by kernel_rfl) rfl (by simp [Value.oneCell']) ?_; obtain ⟨W2, hV⟩ : ∃ W, W = (w2.alloc (.cells #[.int .i64 0, .int .i64 0, .slice none 0 0] 27)).setRow w2.heap.size #[.int .i64 0, .int .i64 0, .slice A2 0 c2] := ⟨_, rfl⟩; rw [← hV]; obtain ⟨gb, nb⟩ := keybox2_ _ _ _ _ hV; have D3 := Lib.hid (bel_on D2.out gb); have Q3 := Lib.hid nb; clear hV gb nb))
  all_goals (rcases he0 with rfl | rfl <;> first | omega | (go_ret; exact ⟨rfl, D3.out⟩))

set_option maxHeartbeats 8000000 in
set_option maxRecDepth 100000 in
theorem auditProved_good (ks : List (List UInt8)) (j : Nat) (A : Option Addr) (c : Nat) (w : World) {n : Nat} (hn : ks.length = n) (h : KR w A c ks) (HA : Hid (Calls Tryz.prog 25 #[] w fun e w' => e = .returned (.bool true) ∧ Below w.heap.size w w')) (h128 : n ≤ 128) (hj : j < n) :
    Calls Tryz.prog 4 #[.slice A n c, .int .i64 (j : Int)] w fun e w' => e = .returned (.bool true) ∧ Below w.heap.size w w' := by
  have hni : (n : Int) ≤ 128 := by omega
  have hji : (j : Int) < n := by omega
  have hj0 : (0 : Int) ≤ j := by omega
  obtain ⟨b, off, rfl, hb, hrow⟩ := h.at_ (i := j) (by omega)
  have hlf : ks[j]'(by omega) = ks.getD j [] := by rw [List.getD_eq_getElem?_getD, List.getElem?_eq_getElem (by omega)]; rfl
  rw [hlf] at hrow
  have hl16 : (ks.getD j []).length = 16 := by rw [← hlf]; exact h.2 _ (List.getElem_mem _)
  have HLF := Lib.hid hl16
  have HR1 : Hid (∀ W, Below w.heap.size w W → W.rangeAt b (off + j * 16) (cellsB (ks.getD j []))) := fun W hW => range_below hrow hW
  have HP : Hid (∀ W, Below w.heap.size w W → Calls Tryz.prog 26 #[.slice (some ⟨b, off, none⟩) n c, .int .i64 (j : Int)] W fun e w' => (∃ A' c', e = .returned (.tuple #[.agg #[.int .i64 (n : Int), .int .i64 (j : Int), .slice A' (pathS ks j).length c'], .int .i64 0]) ∧ KR w' A' c' (pathS ks j)) ∧ Below W.heap.size W w') := fun W hW => (Prove_any ks j (some ⟨b, off, none⟩) c W hn (h.below hW)).mono fun e w' hh => by
    have e1 : proveS ks j = ⟨n, j, pathS ks j, 0⟩ := by unfold proveS; rw [if_neg (by omega), if_neg (by omega), hn, Int.toNat_natCast]
    rw [e1] at hh
    obtain ⟨⟨A', c', he, ho⟩, hbb⟩ := hh
    exact ⟨⟨A', c', he, ho.kr (pathS_k16_ n ks j hn) (by have := pathS_kle_ n ks j hn; dsimp only; omega)⟩, hbb⟩
  have HRT : Hid (∀ W, Below w.heap.size w W → Calls Tryz.prog 27 #[.slice (some ⟨b, off, none⟩) n c] W fun e w' => e = .returned (.tuple #[.agg (cellsB (rootS ks)).toArray, .int .i64 0]) ∧ Below W.heap.size W w') := fun W hW => (Root_any ks (some ⟨b, off, none⟩) c W hn (h.below hW)).mono fun e w' hh => by
    have e1 : rtS ks = (rootS ks, 0) := by unfold rtS; rw [if_neg (by omega)]
    rwa [e1] at hh
  have HV : Hid (∀ W A' c', KR W A' c' (pathS ks j) → Calls Tryz.prog 28 #[.agg (cellsB (rootS ks)).toArray, .agg (cellsB (ks.getD j [])).toArray, .agg #[.int .i64 (n : Int), .int .i64 (j : Int), .slice A' (pathS ks j).length c']] W fun e w' => e = .returned (.tuple #[.bool true, .int .i64 0]) ∧ Below W.heap.size W w') := fun W A' c' hk => by
    have := Verify_any (rootS ks) (ks.getD j []) n j (pathS ks j) A' c' W rfl (rootS_length _) hl16 hk
    rwa [proved_plain hn hj h128] at this
  have HRL : Hid ((rootS ks).length = 16) := rootS_length _
  clear hl16 hrow hlf h hb
  generalize rootS ks = R at HRT HV HRL
  generalize pathS ks j = P at HP HV
  generalize ks.getD j [] = lf at HLF HR1 HV
  generalize P.length = m at HP HV
  clear hn
  go_enter Tryz.func4, Tryz.ntmps4
  go_wp2_with (first
    | (go_at_call 25; refine (HA.out).mono ?_; rintro e w1 ⟨rfl, hb1⟩; have D1 := Lib.hid hb1; clear hb1)
    | (go_at_call 26; refine (HP.out _ D1.out).mono ?_; rintro e w2 ⟨⟨A2, c2, rfl, hp2⟩, hb2⟩; have D2 := Lib.hid (bel_on D1.out hb2); have P2 := Lib.hid hp2; clear hb2 hp2)
    | (refine wpList_store_row rfl 27 (.tmp 6) (.tmp 17) rfl w2.heap.size #[.int .i64 (n : Int), .int .i64 (j : Int), .slice A2 m c2] rfl rfl 27 #[.int .i64 0, .int .i64 0, .slice none 0 0] (Blk.new w2 _ _) (by kernel_rfl) rfl (by simp [Value.oneCell']) ?_; obtain ⟨W2, hV⟩ : ∃ W, W = (w2.alloc (.cells #[.int .i64 0, .int .i64 0, .slice none 0 0] 27)).setRow w2.heap.size #[.int .i64 (n : Int), .int .i64 (j : Int), .slice A2 m c2] := ⟨_, rfl⟩; rw [← hV]; obtain ⟨gb, nb⟩ := keybox2_ _ _ _ _ hV; have D3 := Lib.hid (bel_on D2.out gb); have Q3 := Lib.hid nb; have P3 := Lib.hid (P2.out.below gb); clear hV gb nb)
    | (go_at_call 27; refine (HRT.out _ D3.out).mono ?_; rintro e w4 ⟨rfl, hb4⟩; have D4 := Lib.hid (bel_on D3.out hb4); have P4 := Lib.hid (P3.out.below hb4); have Q4 := Lib.hid (Q3.out.below' hb4); clear hb4)
    | ((first | rw [zero16] | skip); refine wpList_store_row rfl 24 (.tmp 8) (.tmp 44) rfl w4.heap.size (cellsB R).toArray rfl rfl 24 (cellsB zeroK).toArray (Blk.new w4 _ _) (cellsB_size _ HRL.out) (cellsB_sizes _ _ zeroK_length HRL.out) (cellsB_all _) ?_; obtain ⟨W5, hV⟩ : ∃ W, W = (w4.alloc (.cells (cellsB zeroK).toArray 24)).setRow w4.heap.size (cellsB R).toArray := ⟨_, rfl⟩; rw [← hV]; obtain ⟨gb, nb⟩ := keybox2_ _ _ _ _ hV; have D5 := Lib.hid (bel_on D4.out gb); have P5 := Lib.hid (P4.out.below gb); have Q5 := Lib.hid (Q4.out.below' gb); have R5 := Lib.hid nb; clear hV gb nb))
  have HS : Hid (∀ W, Below W5.heap.size W5 W → W.rangeAt w4.heap.size 0 (cellsB R) ∧ W.rangeAt b (off + j * 16) (cellsB lf) ∧ W.rangeAt w2.heap.size 0 [.int .i64 (n : Int), .int .i64 (j : Int), .slice A2 m c2]) := fun W hW => ⟨(R5.out.below' hW).range, HR1.out _ (bel_on D5.out hW), (Q5.out.below' hW).range⟩
  have E5 : Below W5.heap.size W5 W5 := Below.refl _ _
  refine wp_region_noPanic ?_
  refine wp_region_held_drew (S := fun W => W.rangeAt w4.heap.size 0 (cellsB R) ∧ W.rangeAt b (off + j * 16) (cellsB lf) ∧ W.rangeAt w2.heap.size 0 [.int .i64 (n : Int), .int .i64 (j : Int), .slice A2 m c2]) (by kernel_rfl) (HS.out _ E5.drew) (fun hS => ?_)
  have E5 := E5.drew
  refine hd_load 0 (w4.heap.size) (0) (cellsB R) _ _ rfl rfl rfl (by kernel_rfl) (by kernel_rfl) (by kernel_rfl) (fun _ _ _ h => h) rfl (fun w hw => hw.1) under_key rfl (key_info HRL.out) hS ?_
  refine hd_take 1 (_) rfl rfl (by kernel_rfl) (by kernel_rfl) (by kernel_rfl) (fun _ _ _ h => h) (fun w hw => by go_simp <;> rfl) hS ?_
  refine hd_take 2 (_) rfl rfl (by kernel_rfl) (by kernel_rfl) (by kernel_rfl) (fun _ _ _ h => h) (fun w hw => by go_simp <;> rfl) hS ?_
  simp only [List.getElem_toArray, List.getElem_cons_succ, List.getElem_cons_zero, Act.put, List.setIfInBounds_toArray, List.set_cons_zero, List.set_cons_succ]
  refine hd_take 3 (_) rfl rfl (by kernel_rfl) (by kernel_rfl) (by kernel_rfl) (fun _ _ _ h => h) (fun w hw => by go_simp <;> rfl) hS ?_
  simp only [List.getElem_toArray, List.getElem_cons_succ, List.getElem_cons_zero, Act.put, List.setIfInBounds_toArray, List.set_cons_zero, List.set_cons_succ]
  refine hd_load 4 (b) (off + j * 16) (cellsB lf) _ _ rfl rfl rfl (by kernel_rfl) (by kernel_rfl) (by kernel_rfl) (fun _ _ _ h => h) rfl (fun w hw => hw.2.1) under_key rfl (key_info HLF.out) hS ?_
  refine hd_load 5 (w2.heap.size) (0) ([.int .i64 (n : Int), .int .i64 (j : Int), .slice A2 m c2]) _ _ rfl rfl rfl (by kernel_rfl) (by kernel_rfl) (by kernel_rfl) (fun _ _ _ h => h) rfl (fun w hw => hw.2.2) Tryz.underlying27 rfl (by kernel_rfl) hS ?_
  simp only [List.getElem_toArray, List.getElem_cons_succ, List.getElem_cons_zero, Act.put, List.setIfInBounds_toArray, List.set_cons_zero, List.set_cons_succ]
  refine hd_calls 6 28 #[.agg (cellsB R).toArray, .agg (cellsB lf).toArray, .agg #[.int .i64 (n : Int), .int .i64 (j : Int), .slice A2 m c2]] rfl rfl (by kernel_rfl) (by go_simp <;> rfl) ?_
  refine (HV.out _ _ _ (P5.out.below E5)).mono ?_
  rintro e w6 ⟨rfl, hb6⟩
  have E6 := bel_on E5 hb6
  have hS6 := HS.out _ E6
  refine ⟨_, rfl, hS6, ?_⟩
  simp only [List.getElem_toArray, List.getElem_cons_succ, List.getElem_cons_zero, Act.put, List.setIfInBounds_toArray, List.set_cons_zero, List.set_cons_succ]
  refine hd_take 7 (_) rfl rfl (by kernel_rfl) (by kernel_rfl) (by kernel_rfl) (fun _ _ _ h => h) (fun w hw => by go_simp <;> rfl) hS6 ?_
  simp only [List.getElem_toArray, List.getElem_cons_succ, List.getElem_cons_zero, Act.put, List.setIfInBounds_toArray, List.set_cons_zero, List.set_cons_succ]
  refine hd_take 8 (_) rfl rfl (by kernel_rfl) (by kernel_rfl) (by kernel_rfl) (fun _ _ _ h => h) (fun w hw => by go_simp <;> rfl) hS6 ?_
  simp only [List.getElem_toArray, List.getElem_cons_succ, List.getElem_cons_zero, Act.put, List.setIfInBounds_toArray, List.set_cons_zero, List.set_cons_succ]
  refine hd_take 9 (_) rfl rfl (by kernel_rfl) (by kernel_rfl) (by kernel_rfl) (fun _ _ _ h => h) (fun w hw => by go_simp <;> rfl) hS6 ?_
  simp only [List.getElem_toArray, List.getElem_cons_succ, List.getElem_cons_zero, Act.put, List.setIfInBounds_toArray, List.set_cons_zero, List.set_cons_succ]
  refine hd_take 10 (_) rfl rfl (by kernel_rfl) (by kernel_rfl) (by kernel_rfl) (fun _ _ _ h => h) (fun w hw => by go_simp <;> rfl) hS6 ?_
  simp only [List.getElem_toArray, List.getElem_cons_succ, List.getElem_cons_zero, Act.put, List.setIfInBounds_toArray, List.set_cons_zero, List.set_cons_succ]
  refine hd_take 11 (_) rfl rfl (by kernel_rfl) (by kernel_rfl) (by kernel_rfl) (fun _ _ _ h => h) (fun w hw => by go_simp <;> rfl) hS6 ?_
  refine wpAnyH_done (by kernel_rfl) (NoPanic.normal ?_) _
  simp only [List.getElem_toArray, List.getElem_cons_succ, List.getElem_cons_zero, Act.put, List.setIfInBounds_toArray, List.set_cons_zero, List.set_cons_succ]
  have k0 : w6.cell? ⟨w2.heap.size, 0, none⟩ = some (.int .i64 (n : Int)) := (Q5.out.below' E6).cell 0
  have k1 : w6.cell? ⟨w2.heap.size, 1, none⟩ = some (.int .i64 (j : Int)) := (Q5.out.below' E6).cell 1
  have D6 := Lib.hid (bel_on D5.out E6)
  clear hS hS6 HS hb6 E5 E6
  go_wp2_with fail
  go_ret
  exact ⟨rfl, D6.out⟩
theorem auditProved_walk (A : Option Addr) (c : Nat) (ks : List (List UInt8)) (i : Int) (w : World) (h : KR w A c ks) (hc : c * 16 ≤ 140737488351232) (_ : -9223372036854775808 ≤ i) (_ : i ≤ 9223372036854775807) (hT : TestsIn w) :
    Calls Tryz.prog 4 #[.slice A ks.length c, .int .i64 i] w fun e w' => e = .returned (.bool true) ∧ Below w.heap.size w w' := by
  have HA := Lib.hid (alive_any w hT)
  by_cases hbad : 128 < ks.length ∨ i < 0 ∨ (ks.length : Int) ≤ i
  · exact auditProved_bad ks i A c w rfl h HA hbad
  · obtain ⟨j, rfl⟩ : ∃ j : Nat, i = (j : Int) := ⟨i.toNat, by omega⟩
    exact auditProved_good ks j A c w rfl h HA (by omega) (by omega)
end Go.Proofs.YtinpiodfpnbllaaGreatDoor
