/-
  Lemmas and contracts, joined.
-/
import Derived.Test.YtinpiodfpnbllaaGreatDoorAuE1
import Derived.Test.YtinpiodfpnbllaaGreatDoorAuK1
set_option linter.unusedSimpArgs false
set_option linter.unusedVariables false
set_option linter.unnecessarySimpa false
/- The law AuditOpenings: the walk. -/
namespace Go.Proofs.YtinpiodfpnbllaaGreatDoor
open Go.RowKit
set_option linter.unusedVariables false
set_option linter.unusedSimpArgs false
attribute [local go_sem] equalIn_keys

theorem clashP_any (A1 : Option Addr) (c1 : Nat) (l1 : List UInt8) (A2 : Option Addr) (c2 : Nat) (l2 : List UInt8) (W : World) {n1 n2 : Nat} (hn1 : l1.length = n1) (hn2 : l2.length = n2) (h1 : BR W A1 c1 l1) (h2 : BR W A2 c2 l2) (t1 : n1 ≤ 16384) (t2 : n2 ≤ 16384) (hC : Clash [l1, l2]) :
    Calls Tryz.prog 39 #[.slice (some ⟨W.heap.size + 1, 0, none⟩) 1 1] ((W.alloc (.cells #[.slice A1 n1 c1, .slice A2 n2 c2] 22)).alloc (.cells #[.slice (some ⟨W.heap.size, 0, none⟩) 2 2] 71)) fun e w' => e = .returned (.bool true) ∧ Below W.heap.size W w' := by
  subst hn1 hn2
  obtain ⟨V, hV⟩ : ∃ V, V = W.alloc (.cells #[.slice A1 l1.length c1, .slice A2 l2.length c2] 22) := ⟨_, rfl⟩
  have b1 : Below W.heap.size W V := by rw [hV]; exact alloc_bel W _
  have hz : V.heap.size = W.heap.size + 1 := by rw [hV]; simp
  have hro : RO W.heap.size V (some ⟨W.heap.size, 0, none⟩) 2 [⟨A1, c1, l1⟩, ⟨A2, c2, l2⟩] := by
    rw [hV]
    exact World.ownsRow_lit (e := 22) (size := 1) W #[.slice A1 l1.length c1, .slice A2 l2.length c2] 2 (Nat.le_refl _) (by simp [maxLen]) (by simp)
  have hrr : RR V (some ⟨W.heap.size, 0, none⟩) 2 [⟨A1, c1, l1⟩, ⟨A2, c2, l2⟩] := hro.rr (by simp) fun r hr => by
    simp only [List.mem_cons, List.not_mem_nil, or_false] at hr
    rcases hr with rfl | rfl
    · exact h1.below b1
    · exact h2.below b1
  rw [← hV]
  have b0 := alloc_bel V (.cells #[.slice (some ⟨W.heap.size, 0, none⟩) 2 2] 71)
  have B := Blk.new V 71 #[.slice (some ⟨W.heap.size, 0, none⟩) 2 2]
  have := clash_any [⟨some ⟨W.heap.size, 0, none⟩, 2, [⟨A1, c1, l1⟩, ⟨A2, c2, l2⟩]⟩] V.heap.size 0 1 _ (n := 1) rfl (fun i T hT => by
      match i, hT with
      | 0, hT => injection hT with hT; subst hT; exact B.cell 0
      | i + 1, hT => simp at hT) (by simp) (fun T hT => by rw [List.mem_singleton.1 hT]; exact hrr.on b0) (by simp [flatT]) (by omega) (by omega) (fun T hT => by
      rw [List.mem_singleton.1 hT]
      intro r hr
      simp only [List.mem_cons, List.not_mem_nil, or_false] at hr
      rcases hr with rfl | rfl <;> assumption) (by simpa [flatT] using hC)
  rw [hz] at this
  exact this.mono fun e w' ⟨he, hb⟩ => ⟨he, bel_on (bel_on b1 b0) hb⟩

set_option maxHeartbeats 4000000 in
set_option maxRecDepth 100000 in
theorem openings_bad (a : List UInt8) (A : Option Addr) (c : Nat) (k : List UInt8) (b : List UInt8) (B : Option Addr) (d : Nat) (q : List UInt8) (w : World) {n m : Nat} (hn : a.length = n) (hm : b.length = m) (ha : BR w A c a) (hk : k.length = 16) (hb' : BR w B d b) (hq : q.length = 16) (HA : Hid (∀ W, Below w.heap.size w W → Calls Tryz.prog 25 #[] W fun e w' => e = .returned (.bool true) ∧ Below W.heap.size W w')) (hbad : halfB a 1 = false ∨ halfB b 1 = false) :
    Calls Tryz.prog 8 #[.slice A n c, .agg (cellsB k).toArray, .slice B m d, .agg (cellsB q).toArray] w fun e w' => e = .returned (.bool true) ∧ Below w.heap.size w w' := by
  have HC1 : Hid (∀ W, Below w.heap.size w W → Calls Tryz.prog 18 #[.slice A n c, .agg (cellsB k).toArray] W fun e w' => e = .returned (.tuple #[.agg (cellsB (cmS a k).1).toArray, .int .i64 (cmS a k).2]) ∧ Below W.heap.size W w') := fun W hW => Commit_any a k A c W hn hk (ha.below hW)
  have HC2 : Hid (∀ W, Below w.heap.size w W → Calls Tryz.prog 18 #[.slice B m d, .agg (cellsB q).toArray] W fun e w' => e = .returned (.tuple #[.agg (cellsB (cmS b q).1).toArray, .int .i64 (cmS b q).2]) ∧ Below W.heap.size W w') := fun W hW => Commit_any b q B d W hm hq (hb'.below hW)
  have HXL : Hid ((cmS a k).1.length = 16) := cmS_length _ _
  have HYL : Hid ((cmS b q).1.length = 16) := cmS_length _ _
  have he : Hid (((cmS a k).2 = 2 ∧ ((cmS b q).2 = 0 ∨ (cmS b q).2 = 2)) ∨ ((cmS a k).2 = 0 ∧ (cmS b q).2 = 2)) := by
    unfold Hid cmS
    cases h1 : halfB a 1 <;> cases h2 : halfB b 1 <;> simp_all
  generalize cmS a k = r1 at HC1 HXL he
  generalize cmS b q = r2 at HC2 HYL he
  obtain ⟨x, e1⟩ := r1
  obtain ⟨y, e2⟩ := r2
  dsimp only at HC1 HC2 HXL HYL he
  have hnl : (n : Int) ≤ 140737488351232 := by have := ha.len; omega
  have hml : (m : Int) ≤ 140737488351232 := by have := hb'.len; omega
  obtain ⟨W0, hW0⟩ : ∃ W, W = (w.alloc (.cells (cellsB k).toArray 24)).alloc (.cells (cellsB q).toArray 24) := ⟨_, rfl⟩
  have D0 : Hid (Below w.heap.size w W0) := by unfold Hid; rw [hW0]; exact alloc2_bel w _ _
  have K0 : Hid (Blk W0 w.heap.size 24 (cellsB k).toArray) := by unfold Hid; rw [hW0]; exact blk_b0 w _ _ _
  have Q0 : Hid (Blk W0 (w.heap.size + 1) 24 (cellsB q).toArray) := by unfold Hid; rw [hW0]; exact blk_b1 w _ _ _
  have HW0 := Lib.hid hW0
  have HK := Lib.hid hk
  have HQ := Lib.hid hq
  have HBA := Lib.hid ha
  have HBB := Lib.hid hb'
  have HN := Lib.hid hn
  have HM := Lib.hid hm
  clear hW0 hn hm ha hk hb' hq hbad
  rcases he.out with ⟨rfl, rfl | rfl⟩ | ⟨rfl, rfl⟩
  all_goals
    go_enter Tryz.func8, Tryz.ntmps8
    go_wp2_with (first
      | (go_at_call 25; rw [← HW0.out]; (with_reducible refine (HA.out _ D0.out).mono ?_); rintro e w1 ⟨rfl, hb⟩; have D1 := Lib.hid (bel_on D0.out hb); have K1 := Lib.hid (K0.out.below' hb); have Q1 := Lib.hid (Q0.out.below' hb); clear hb)
      | (refine wpList_load_row rfl 24 (.tmp 5) rfl w.heap.size rfl 24 (cellsB k).toArray (0, 0) _ K1.out under_key rfl (cellsB_size _ HK.out) ?_)
      | (go_at_call 18; (with_reducible refine (HC1.out _ D1.out).mono ?_); rintro e w2 ⟨rfl, hb⟩; have D2 := Lib.hid (bel_on D1.out hb); have K2 := Lib.hid (K1.out.below' hb); have Q2 := Lib.hid (Q1.out.below' hb); clear hb)
      | ((first | rw [zero16] | skip); refine wpList_store_row rfl 24 (.tmp 10) (.tmp 21) rfl w2.heap.size (cellsB x).toArray rfl rfl 24 (cellsB zeroK).toArray (Blk.new w2 _ _) (cellsB_size _ HXL.out) (cellsB_sizes _ _ zeroK_length HXL.out) (cellsB_all _) ?_; obtain ⟨w3, hV⟩ : ∃ W, W = (w2.alloc (.cells (cellsB zeroK).toArray 24)).setRow w2.heap.size (cellsB x).toArray := ⟨_, rfl⟩; rw [← hV]; obtain ⟨hb, nb⟩ := keybox2_ _ _ _ _ hV; have D3 := Lib.hid (bel_on D2.out hb); have K3 := Lib.hid (K2.out.below' hb); have Q3 := Lib.hid (Q2.out.below' hb); have X3 := Lib.hid nb; clear hV hb nb)
      | (refine wpList_load_row rfl 24 (.tmp 7) rfl (w.heap.size + 1) rfl 24 (cellsB q).toArray (0, 0) _ Q3.out under_key rfl (cellsB_size _ HQ.out) ?_)
      | (go_at_call 18; (with_reducible refine (HC2.out _ D3.out).mono ?_); rintro e w4 ⟨rfl, hb⟩; have D4 := Lib.hid (bel_on D3.out hb); have K4 := Lib.hid (K3.out.below' hb); have Q4 := Lib.hid (Q3.out.below' hb); have X4 := Lib.hid (X3.out.below' hb); clear hb)
      | ((first | rw [zero16] | skip); refine wpList_store_row rfl 24 (.tmp 12) (.tmp 27) rfl w4.heap.size (cellsB y).toArray rfl rfl 24 (cellsB zeroK).toArray (Blk.new w4 _ _) (cellsB_size _ HYL.out) (cellsB_sizes _ _ zeroK_length HYL.out) (cellsB_all _) ?_; obtain ⟨w5, hV⟩ : ∃ W, W = (w4.alloc (.cells (cellsB zeroK).toArray 24)).setRow w4.heap.size (cellsB y).toArray := ⟨_, rfl⟩; rw [← hV]; obtain ⟨hb, nb⟩ := keybox2_ _ _ _ _ hV; have D5 := Lib.hid (bel_on D4.out hb); have K5 := Lib.hid (K4.out.below' hb); have Q5 := Lib.hid (Q4.out.below' hb); have X5 := Lib.hid (X4.out.below' hb); have Y5 := Lib.hid nb; clear hV hb nb))
    go_ret
    exact ⟨rfl, D5.out⟩

set_option maxHeartbeats 8000000 in
set_option maxRecDepth 100000 in
theorem openings_apart (a : List UInt8) (A : Option Addr) (c : Nat) (k : List UInt8) (b : List UInt8) (B : Option Addr) (d : Nat) (q : List UInt8) (w : World) {n m : Nat} (hn : a.length = n) (hm : b.length = m) (ha : BR w A c a) (hk : k.length = 16) (hb' : BR w B d b) (hq : q.length = 16) (HA : Hid (∀ W, Below w.heap.size w W → Calls Tryz.prog 25 #[] W fun e w' => e = .returned (.bool true) ∧ Below W.heap.size W w')) (h1 : halfB a 1 = true) (h2 : halfB b 1 = true) (hxy : ¬ digS (openT a k) = digS (openT b q)) :
    Calls Tryz.prog 8 #[.slice A n c, .agg (cellsB k).toArray, .slice B m d, .agg (cellsB q).toArray] w fun e w' => e = .returned (.bool true) ∧ Below w.heap.size w w' := by
  have HC1 : Hid (∀ W, Below w.heap.size w W → Calls Tryz.prog 18 #[.slice A n c, .agg (cellsB k).toArray] W fun e w' => e = .returned (.tuple #[.agg (cellsB (cmS a k).1).toArray, .int .i64 (cmS a k).2]) ∧ Below W.heap.size W w') := fun W hW => Commit_any a k A c W hn hk (ha.below hW)
  have HC2 : Hid (∀ W, Below w.heap.size w W → Calls Tryz.prog 18 #[.slice B m d, .agg (cellsB q).toArray] W fun e w' => e = .returned (.tuple #[.agg (cellsB (cmS b q).1).toArray, .int .i64 (cmS b q).2]) ∧ Below W.heap.size W w') := fun W hW => Commit_any b q B d W hm hq (hb'.below hW)
  have HXL : Hid ((cmS a k).1.length = 16) := cmS_length _ _
  have HYL : Hid ((cmS b q).1.length = 16) := cmS_length _ _
  have e1 : cmS a k = (digS (openT a k), 0) := by unfold cmS; rw [if_pos h1]
  have e2 : cmS b q = (digS (openT b q), 0) := by unfold cmS; rw [if_pos h2]
  rw [e1] at HC1 HXL
  rw [e2] at HC2 HYL
  have n1 : n ≤ 1000 := by have := (halfB_iff.1 h1).1.2; omega
  have m1 : m ≤ 1000 := by have := (halfB_iff.1 h2).1.2; omega
  have n1i : (n : Int) ≤ 1000 := by omega
  have m1i : (m : Int) ≤ 1000 := by omega
  have HSL : Hid ((([2] : List UInt8) ++ k).length = 17) := by unfold Hid; simp [hk]
  have HTL : Hid ((([2] : List UInt8) ++ q).length = 17) := by unfold Hid; simp [hq]
  have HS1 : Hid ((([2] : List UInt8) ++ k ++ a).length = 17 + n) := by unfold Hid; simp [hk, hn]; omega
  have HT1 : Hid ((([2] : List UInt8) ++ q ++ b).length = 17 + m) := by unfold Hid; simp [hq, hm]; omega
  have HG1 : Hid (∀ W X x, BR W X x ([2] ++ k ++ a) → Calls Tryz.prog 38 #[.slice X (17 + n) x] W fun e w' => e = .returned (.agg (cellsB (digS (openT a k))).toArray) ∧ Below W.heap.size W w') := fun W X x h => lawDigest_any _ X x W HS1.out h (by omega)
  have HG2 : Hid (∀ W X x, BR W X x ([2] ++ q ++ b) → Calls Tryz.prog 38 #[.slice X (17 + m) x] W fun e w' => e = .returned (.agg (cellsB (digS (openT b q))).toArray) ∧ Below W.heap.size W w') := fun W X x h => lawDigest_any _ X x W HT1.out h (by omega)
  have HXY : Hid ((digS (openT a k) == digS (openT b q)) = false) := by unfold Hid; simpa using hxy
  dsimp only at HC1 HC2 HXL HYL
  generalize digS (openT a k) = x at HC1 HXL HG1 HXY
  generalize digS (openT b q) = y at HC2 HYL HG2 HXY
  have hnl : (n : Int) ≤ 140737488351232 := by have := ha.len; omega
  have hml : (m : Int) ≤ 140737488351232 := by have := hb'.len; omega
  obtain ⟨W0, hW0⟩ : ∃ W, W = (w.alloc (.cells (cellsB k).toArray 24)).alloc (.cells (cellsB q).toArray 24) := ⟨_, rfl⟩
  have D0 : Hid (Below w.heap.size w W0) := by unfold Hid; rw [hW0]; exact alloc2_bel w _ _
  have K0 : Hid (Blk W0 w.heap.size 24 (cellsB k).toArray) := by unfold Hid; rw [hW0]; exact blk_b0 w _ _ _
  have Q0 : Hid (Blk W0 (w.heap.size + 1) 24 (cellsB q).toArray) := by unfold Hid; rw [hW0]; exact blk_b1 w _ _ _
  have HW0 := Lib.hid hW0
  have HK := Lib.hid hk
  have HQ := Lib.hid hq
  have HBA := Lib.hid ha
  have HBB := Lib.hid hb'
  have HN := Lib.hid hn
  have HM := Lib.hid hm
  clear hW0 hn hm ha hk hb' hq h1 h2 e1 e2 hxy
  go_enter Tryz.func8, Tryz.ntmps8
  go_wp2_with (first
    | (go_at_call 25; rw [← HW0.out]; (with_reducible refine (HA.out _ D0.out).mono ?_); rintro e w1 ⟨rfl, hb⟩; have D1 := Lib.hid (bel_on D0.out hb); have K1 := Lib.hid (K0.out.below' hb); have Q1 := Lib.hid (Q0.out.below' hb); clear hb)
    | (refine wpList_load_row rfl 24 (.tmp 5) rfl w.heap.size rfl 24 (cellsB k).toArray (0, 0) _ K1.out under_key rfl (cellsB_size _ HK.out) ?_)
    | (go_at_call 18; (with_reducible refine (HC1.out _ D1.out).mono ?_); rintro e w2 ⟨rfl, hb⟩; have D2 := Lib.hid (bel_on D1.out hb); have K2 := Lib.hid (K1.out.below' hb); have Q2 := Lib.hid (Q1.out.below' hb); clear hb)
    | ((first | rw [zero16] | skip); refine wpList_store_row rfl 24 (.tmp 10) (.tmp 21) rfl w2.heap.size (cellsB x).toArray rfl rfl 24 (cellsB zeroK).toArray (Blk.new w2 _ _) (cellsB_size _ HXL.out) (cellsB_sizes _ _ zeroK_length HXL.out) (cellsB_all _) ?_; obtain ⟨w3, hV⟩ : ∃ W, W = (w2.alloc (.cells (cellsB zeroK).toArray 24)).setRow w2.heap.size (cellsB x).toArray := ⟨_, rfl⟩; rw [← hV]; obtain ⟨hb, nb⟩ := keybox2_ _ _ _ _ hV; have D3 := Lib.hid (bel_on D2.out hb); have K3 := Lib.hid (K2.out.below' hb); have Q3 := Lib.hid (Q2.out.below' hb); have X3 := Lib.hid nb; clear hV hb nb)
    | (refine wpList_load_row rfl 24 (.tmp 7) rfl (w.heap.size + 1) rfl 24 (cellsB q).toArray (0, 0) _ Q3.out under_key rfl (cellsB_size _ HQ.out) ?_)
    | (go_at_call 18; (with_reducible refine (HC2.out _ D3.out).mono ?_); rintro e w4 ⟨rfl, hb⟩; have D4 := Lib.hid (bel_on D3.out hb); have K4 := Lib.hid (K3.out.below' hb); have Q4 := Lib.hid (Q3.out.below' hb); have X4 := Lib.hid (X3.out.below' hb); clear hb)
    | ((first | rw [zero16] | skip); refine wpList_store_row rfl 24 (.tmp 12) (.tmp 27) rfl w4.heap.size (cellsB y).toArray rfl rfl 24 (cellsB zeroK).toArray (Blk.new w4 _ _) (cellsB_size _ HYL.out) (cellsB_sizes _ _ zeroK_length HYL.out) (cellsB_all _) ?_; obtain ⟨w5, hV⟩ : ∃ W, W = (w4.alloc (.cells (cellsB zeroK).toArray 24)).setRow w4.heap.size (cellsB y).toArray := ⟨_, rfl⟩; rw [← hV]; obtain ⟨hb, nb⟩ := keybox2_ _ _ _ _ hV; have D5 := Lib.hid (bel_on D4.out hb); have K5 := Lib.hid (K4.out.below' hb); have Q5 := Lib.hid (Q4.out.below' hb); have X5 := Lib.hid (X4.out.below' hb); have Y5 := Lib.hid nb; clear hV hb nb)
    | (at_builtin; (first | rw [show (#[.int .u8 2] : Array Value) = (cellsB [2]).toArray from rfl] | skip); refine wpList_append_bytes _ rfl (.tmp 36) (.tmp 37) rfl w5.heap.size (some ⟨w5.heap.size, 0, none⟩) 1 1 [2] rfl rfl (OB.lit _ w5 [2] (Nat.le_refl _) (by simp) rfl) (some ⟨w.heap.size, 0, none⟩) 16 16 k HK.out rfl ((K5.out.below' (alloc_bel w5 _)).src HK.out) (by omega) (by simp) ?_; intro A6 c6 w6 hon hbl hg; have O6 := Lib.hid hon; have E6 := Lib.hid ((alloc_bel w5 _).trans hbl); clear hon hbl hg)
    | (at_builtin; refine wpList_append_bytes _ rfl (.tmp 38) (.tmp 39) rfl w5.heap.size A6 17 c6 ([2] ++ k) HSL.out rfl O6.out A n c a HN.out rfl ((HBA.out.below (bel_on D5.out E6.out)).src HN.out) (by omega) E6.out.size ?_; intro A7 c7 w7 hon hbl hg; have O7 := Lib.hid hon; have E7 := E6.out.trans hbl; have D7 := Lib.hid (bel_on D5.out E7); have Q7 := Lib.hid (Q5.out.below' E7); have X7 := Lib.hid (X5.out.below' E7); have Y7 := Lib.hid (Y5.out.below' E7); clear hon hbl hg E7)
    | (at_builtin; (first | rw [show (#[.int .u8 2] : Array Value) = (cellsB [2]).toArray from rfl] | skip); refine wpList_append_bytes _ rfl (.tmp 41) (.tmp 42) rfl w7.heap.size (some ⟨w7.heap.size, 0, none⟩) 1 1 [2] rfl rfl (OB.lit _ w7 [2] (Nat.le_refl _) (by simp) rfl) (some ⟨w.heap.size + 1, 0, none⟩) 16 16 q HQ.out rfl ((Q7.out.below' (alloc_bel w7 _)).src HQ.out) (by omega) (by simp) ?_; intro A8 c8 w8 hon hbl hg; have O8 := Lib.hid hon; have E8 := Lib.hid ((alloc_bel w7 _).trans hbl); clear hon hbl hg)
    | (at_builtin; refine wpList_append_bytes _ rfl (.tmp 43) (.tmp 44) rfl w7.heap.size A8 17 c8 ([2] ++ q) HTL.out rfl O8.out B m d b HM.out rfl ((HBB.out.below (bel_on D7.out E8.out)).src HM.out) (by omega) E8.out.size ?_; intro A9 c9 w9 hon hbl hg; have O9 := Lib.hid hon; have E9 := E8.out.trans hbl; have D9 := Lib.hid (bel_on D7.out E9); have S9 := Lib.hid (O7.out.below E9); have X9 := Lib.hid (X7.out.below' E9); have Y9 := Lib.hid (Y7.out.below' E9); clear hon hbl hg E9))
  have HS : Hid (∀ W, Below w9.heap.size w9 W → W.rangeAt w2.heap.size 0 (cellsB x) ∧ W.rangeAt w4.heap.size 0 (cellsB y) ∧ BR W A7 c7 ([2] ++ k ++ a) ∧ BR W A9 c9 ([2] ++ q ++ b)) := fun W hW => ⟨(X9.out.below' hW).range, (Y9.out.below' hW).range, (S9.out.br (by rw [HS1.out]; omega)).below hW, (O9.out.br (by rw [HT1.out]; omega)).below hW⟩
  have E0 : Below w9.heap.size w9 w9 := Below.refl _ _
  refine wp_region_noPanic ?_
  refine wp_region_held_drew (S := fun W => W.rangeAt w2.heap.size 0 (cellsB x) ∧ W.rangeAt w4.heap.size 0 (cellsB y) ∧ BR W A7 c7 ([2] ++ k ++ a) ∧ BR W A9 c9 ([2] ++ q ++ b)) (by kernel_rfl) (HS.out _ E0.drew) (fun hS => ?_)
  have E0 := E0.drew
  refine hd_load 0 (w2.heap.size) (0) (cellsB x) _ _ rfl rfl rfl (by kernel_rfl) (by kernel_rfl) (by kernel_rfl) (fun _ _ _ h => h) rfl (fun w hw => hw.1) under_key rfl (key_info HXL.out) hS ?_
  simp only [List.getElem_toArray, List.getElem_cons_succ, List.getElem_cons_zero, Act.put, List.setIfInBounds_toArray, List.set_cons_zero, List.set_cons_succ]
  refine hd_take 1 (_) rfl rfl (by kernel_rfl) (by kernel_rfl) (by kernel_rfl) (fun _ _ _ h => h) (fun w hw => by go_simp <;> rfl) hS ?_
  simp only [List.getElem_toArray, List.getElem_cons_succ, List.getElem_cons_zero, Act.put, List.setIfInBounds_toArray, List.set_cons_zero, List.set_cons_succ]
  refine hd_calls 2 38 #[.slice A7 (17 + n) c7] rfl rfl (by kernel_rfl) (by go_simp <;> rfl) ?_
  refine (HG1.out _ _ _ hS.2.2.1).mono ?_
  rintro e u1 ⟨rfl, hb⟩
  have E1_ := bel_on E0 hb
  have hS1_ := HS.out _ E1_
  clear hb
  refine ⟨_, rfl, hS1_, ?_⟩
  simp only [List.getElem_toArray, List.getElem_cons_succ, List.getElem_cons_zero, Act.put, List.setIfInBounds_toArray, List.set_cons_zero, List.set_cons_succ]
  refine hd_take 3 (.bool false) rfl rfl (by kernel_rfl) (by kernel_rfl) (by kernel_rfl) (fun _ _ _ h => h) (fun w hw => by have hx := equalIn_keys w x x HXL HXL; simp [go_sem, hx]) hS1_ ?_
  simp only [List.getElem_toArray, List.getElem_cons_succ, List.getElem_cons_zero, Act.put, List.setIfInBounds_toArray, List.set_cons_zero, List.set_cons_succ]
  refine hd_take 4 (_) rfl rfl (by kernel_rfl) (by kernel_rfl) (by kernel_rfl) (fun _ _ _ h => h) (fun w hw => by go_simp <;> rfl) hS1_ ?_
  simp only [List.getElem_toArray, List.getElem_cons_succ, List.getElem_cons_zero, Act.put, List.setIfInBounds_toArray, List.set_cons_zero, List.set_cons_succ]
  refine hg_load 5 (w4.heap.size) (0) (cellsB y) _ _ rfl rfl (by rfl) (by kernel_rfl) (by kernel_rfl) (by kernel_rfl) (fun _ _ _ h => h) rfl (fun w hw => hw.2.1) under_key rfl (key_info HYL.out) hS1_ ?_
  simp only [List.getElem_toArray, List.getElem_cons_succ, List.getElem_cons_zero, Act.put, List.setIfInBounds_toArray, List.set_cons_zero, List.set_cons_succ]
  refine hg_take 6 (_) rfl (by rfl) (by kernel_rfl) (by kernel_rfl) (by kernel_rfl) (fun _ _ _ h => h) (fun w hw => by go_simp <;> rfl) hS1_ ?_
  simp only [List.getElem_toArray, List.getElem_cons_succ, List.getElem_cons_zero, Act.put, List.setIfInBounds_toArray, List.set_cons_zero, List.set_cons_succ]
  refine hg_calls 7 38 #[.slice A9 (17 + m) c9] rfl (by rfl) (by kernel_rfl) (by go_simp <;> rfl) ?_
  refine (HG2.out _ _ _ hS1_.2.2.2).mono ?_
  rintro e u2 ⟨rfl, hb⟩
  have E2_ := bel_on E1_ hb
  have hS2_ := HS.out _ E2_
  clear hb
  refine ⟨_, rfl, hS2_, ?_⟩
  simp only [List.getElem_toArray, List.getElem_cons_succ, List.getElem_cons_zero, Act.put, List.setIfInBounds_toArray, List.set_cons_zero, List.set_cons_succ]
  refine hg_take 8 (.bool false) rfl (by rfl) (by kernel_rfl) (by kernel_rfl) (by kernel_rfl) (fun _ _ _ h => h) (fun w hw => by have hx := equalIn_keys w y y HYL HYL; simp [go_sem, hx]) hS2_ ?_
  simp only [List.getElem_toArray, List.getElem_cons_succ, List.getElem_cons_zero, Act.put, List.setIfInBounds_toArray, List.set_cons_zero, List.set_cons_succ]
  refine hd_take 9 (_) rfl rfl (by kernel_rfl) (by kernel_rfl) (by kernel_rfl) (fun _ _ _ h => h) (fun w hw => by go_simp <;> rfl) hS2_ ?_
  simp only [List.getElem_toArray, List.getElem_cons_succ, List.getElem_cons_zero, Act.put, List.setIfInBounds_toArray, List.set_cons_zero, List.set_cons_succ]
  refine wpAnyH_done (by kernel_rfl) (NoPanic.normal ?_) _
  have hF := hS2_
  have D10 := Lib.hid (bel_on D9.out E2_)
  have X10 := Lib.hid (X9.out.below' E2_)
  have Y10 := Lib.hid (Y9.out.below' E2_)
  have R1 := Lib.hid hF.2.2.1
  have R2 := Lib.hid hF.2.2.2
  clear hF hS hS1_ hS2_ HS E0 E1_ E2_
  have hxe := equalIn_keys u2 x y HXL HYL
  rw [HXY.out] at hxe
  go_wp2_with (first
    | (refine BigFrame.wpList_want (by kernel_rfl) fun K hK => wp_load_row 24 (.tmp 10) rfl w2.heap.size rfl 24 (cellsB x).toArray (0, 0) _ X10.out under_key rfl (cellsB_size _ HXL.out) (hK _ _ ?_))
    | (refine BigFrame.wpList_want (by kernel_rfl) fun K hK => wp_load_row 24 (.tmp 12) rfl w4.heap.size rfl 24 (cellsB y).toArray (0, 0) _ Y10.out under_key rfl (cellsB_size _ HYL.out) (hK _ _ ?_)))
  all_goals first | (exact absurd (eq_of_beq HXY.out) (by assumption)) | (exfalso; have hz := HXY.out; have hq : x = y := (by assumption); rw [hq, beq_self_eq_true] at hz; exact absurd hz (by decide)) | (go_ret; exact ⟨rfl, D10.out⟩)

set_option maxHeartbeats 8000000 in
set_option maxRecDepth 100000 in
theorem openings_same (a : List UInt8) (A : Option Addr) (c : Nat) (k : List UInt8) (b : List UInt8) (B : Option Addr) (d : Nat) (q : List UInt8) (w : World) {n m : Nat} (hn : a.length = n) (hm : b.length = m) (ha : BR w A c a) (hk : k.length = 16) (hb' : BR w B d b) (hq : q.length = 16) (HA : Hid (∀ W, Below w.heap.size w W → Calls Tryz.prog 25 #[] W fun e w' => e = .returned (.bool true) ∧ Below W.heap.size W w')) (h1 : halfB a 1 = true) (h2 : halfB b 1 = true) (hxy : digS (openT a k) = digS (openT b q)) (hst : openT a k = openT b q) :
    Calls Tryz.prog 8 #[.slice A n c, .agg (cellsB k).toArray, .slice B m d, .agg (cellsB q).toArray] w fun e w' => e = .returned (.bool true) ∧ Below w.heap.size w w' := by
  have HC1 : Hid (∀ W, Below w.heap.size w W → Calls Tryz.prog 18 #[.slice A n c, .agg (cellsB k).toArray] W fun e w' => e = .returned (.tuple #[.agg (cellsB (cmS a k).1).toArray, .int .i64 (cmS a k).2]) ∧ Below W.heap.size W w') := fun W hW => Commit_any a k A c W hn hk (ha.below hW)
  have HC2 : Hid (∀ W, Below w.heap.size w W → Calls Tryz.prog 18 #[.slice B m d, .agg (cellsB q).toArray] W fun e w' => e = .returned (.tuple #[.agg (cellsB (cmS b q).1).toArray, .int .i64 (cmS b q).2]) ∧ Below W.heap.size W w') := fun W hW => Commit_any b q B d W hm hq (hb'.below hW)
  have HXL : Hid ((cmS a k).1.length = 16) := cmS_length _ _
  have HYL : Hid ((cmS b q).1.length = 16) := cmS_length _ _
  have e1 : cmS a k = (digS (openT a k), 0) := by unfold cmS; rw [if_pos h1]
  have e2 : cmS b q = (digS (openT b q), 0) := by unfold cmS; rw [if_pos h2]
  rw [e1] at HC1 HXL
  rw [e2] at HC2 HYL
  have n1 : n ≤ 1000 := by have := (halfB_iff.1 h1).1.2; omega
  have m1 : m ≤ 1000 := by have := (halfB_iff.1 h2).1.2; omega
  have n1i : (n : Int) ≤ 1000 := by omega
  have m1i : (m : Int) ≤ 1000 := by omega
  have HSL : Hid ((([2] : List UInt8) ++ k).length = 17) := by unfold Hid; simp [hk]
  have HTL : Hid ((([2] : List UInt8) ++ q).length = 17) := by unfold Hid; simp [hq]
  have HS1 : Hid ((([2] : List UInt8) ++ k ++ a).length = 17 + n) := by unfold Hid; simp [hk, hn]; omega
  have HT1 : Hid ((([2] : List UInt8) ++ q ++ b).length = 17 + m) := by unfold Hid; simp [hq, hm]; omega
  have HG1 : Hid (∀ W X x, BR W X x ([2] ++ k ++ a) → Calls Tryz.prog 38 #[.slice X (17 + n) x] W fun e w' => e = .returned (.agg (cellsB (digS (openT a k))).toArray) ∧ Below W.heap.size W w') := fun W X x h => lawDigest_any _ X x W HS1.out h (by omega)
  have HG2 : Hid (∀ W X x, BR W X x ([2] ++ q ++ b) → Calls Tryz.prog 38 #[.slice X (17 + m) x] W fun e w' => e = .returned (.agg (cellsB (digS (openT b q))).toArray) ∧ Below W.heap.size W w') := fun W X x h => lawDigest_any _ X x W HT1.out h (by omega)
  have HXY : Hid ((digS (openT a k) == digS (openT b q)) = true) := by unfold Hid; simpa using hxy
  obtain ⟨s1, hs0⟩ : ∃ s, strB (([2] : List UInt8) ++ k ++ a) = s := ⟨_, rfl⟩
  have HSS := Lib.hid hs0
  obtain ⟨s2, ht0⟩ : ∃ s, strB (([2] : List UInt8) ++ q ++ b) = s := ⟨_, rfl⟩
  have HTT := Lib.hid ht0
  obtain rfl : s1 = s2 := by rw [← hs0, ← ht0]; exact congrArg strB hst
  clear hs0 ht0
  dsimp only at HC1 HC2 HXL HYL
  generalize digS (openT a k) = x at HC1 HXL HG1 HXY
  generalize digS (openT b q) = y at HC2 HYL HG2 HXY
  have hnl : (n : Int) ≤ 140737488351232 := by have := ha.len; omega
  have hml : (m : Int) ≤ 140737488351232 := by have := hb'.len; omega
  obtain ⟨W0, hW0⟩ : ∃ W, W = (w.alloc (.cells (cellsB k).toArray 24)).alloc (.cells (cellsB q).toArray 24) := ⟨_, rfl⟩
  have D0 : Hid (Below w.heap.size w W0) := by unfold Hid; rw [hW0]; exact alloc2_bel w _ _
  have K0 : Hid (Blk W0 w.heap.size 24 (cellsB k).toArray) := by unfold Hid; rw [hW0]; exact blk_b0 w _ _ _
  have Q0 : Hid (Blk W0 (w.heap.size + 1) 24 (cellsB q).toArray) := by unfold Hid; rw [hW0]; exact blk_b1 w _ _ _
  have HW0 := Lib.hid hW0
  have HK := Lib.hid hk
  have HQ := Lib.hid hq
  have HBA := Lib.hid ha
  have HBB := Lib.hid hb'
  have HN := Lib.hid hn
  have HM := Lib.hid hm
  clear hW0 hn hm ha hk hb' hq h1 h2 e1 e2 hxy hst
  go_enter Tryz.func8, Tryz.ntmps8
  go_wp2_with (first
    | (go_at_call 25; rw [← HW0.out]; (with_reducible refine (HA.out _ D0.out).mono ?_); rintro e w1 ⟨rfl, hb⟩; have D1 := Lib.hid (bel_on D0.out hb); have K1 := Lib.hid (K0.out.below' hb); have Q1 := Lib.hid (Q0.out.below' hb); clear hb)
    | (refine wpList_load_row rfl 24 (.tmp 5) rfl w.heap.size rfl 24 (cellsB k).toArray (0, 0) _ K1.out under_key rfl (cellsB_size _ HK.out) ?_)
    | (go_at_call 18; (with_reducible refine (HC1.out _ D1.out).mono ?_); rintro e w2 ⟨rfl, hb⟩; have D2 := Lib.hid (bel_on D1.out hb); have K2 := Lib.hid (K1.out.below' hb); have Q2 := Lib.hid (Q1.out.below' hb); clear hb)
    | ((first | rw [zero16] | skip); refine wpList_store_row rfl 24 (.tmp 10) (.tmp 21) rfl w2.heap.size (cellsB x).toArray rfl rfl 24 (cellsB zeroK).toArray (Blk.new w2 _ _) (cellsB_size _ HXL.out) (cellsB_sizes _ _ zeroK_length HXL.out) (cellsB_all _) ?_; obtain ⟨w3, hV⟩ : ∃ W, W = (w2.alloc (.cells (cellsB zeroK).toArray 24)).setRow w2.heap.size (cellsB x).toArray := ⟨_, rfl⟩; rw [← hV]; obtain ⟨hb, nb⟩ := keybox2_ _ _ _ _ hV; have D3 := Lib.hid (bel_on D2.out hb); have K3 := Lib.hid (K2.out.below' hb); have Q3 := Lib.hid (Q2.out.below' hb); have X3 := Lib.hid nb; clear hV hb nb)
    | (refine wpList_load_row rfl 24 (.tmp 7) rfl (w.heap.size + 1) rfl 24 (cellsB q).toArray (0, 0) _ Q3.out under_key rfl (cellsB_size _ HQ.out) ?_)
    | (go_at_call 18; (with_reducible refine (HC2.out _ D3.out).mono ?_); rintro e w4 ⟨rfl, hb⟩; have D4 := Lib.hid (bel_on D3.out hb); have K4 := Lib.hid (K3.out.below' hb); have Q4 := Lib.hid (Q3.out.below' hb); have X4 := Lib.hid (X3.out.below' hb); clear hb)
    | ((first | rw [zero16] | skip); refine wpList_store_row rfl 24 (.tmp 12) (.tmp 27) rfl w4.heap.size (cellsB y).toArray rfl rfl 24 (cellsB zeroK).toArray (Blk.new w4 _ _) (cellsB_size _ HYL.out) (cellsB_sizes _ _ zeroK_length HYL.out) (cellsB_all _) ?_; obtain ⟨w5, hV⟩ : ∃ W, W = (w4.alloc (.cells (cellsB zeroK).toArray 24)).setRow w4.heap.size (cellsB y).toArray := ⟨_, rfl⟩; rw [← hV]; obtain ⟨hb, nb⟩ := keybox2_ _ _ _ _ hV; have D5 := Lib.hid (bel_on D4.out hb); have K5 := Lib.hid (K4.out.below' hb); have Q5 := Lib.hid (Q4.out.below' hb); have X5 := Lib.hid (X4.out.below' hb); have Y5 := Lib.hid nb; clear hV hb nb)
    | (at_builtin; (first | rw [show (#[.int .u8 2] : Array Value) = (cellsB [2]).toArray from rfl] | skip); refine wpList_append_bytes _ rfl (.tmp 36) (.tmp 37) rfl w5.heap.size (some ⟨w5.heap.size, 0, none⟩) 1 1 [2] rfl rfl (OB.lit _ w5 [2] (Nat.le_refl _) (by simp) rfl) (some ⟨w.heap.size, 0, none⟩) 16 16 k HK.out rfl ((K5.out.below' (alloc_bel w5 _)).src HK.out) (by omega) (by simp) ?_; intro A6 c6 w6 hon hbl hg; have O6 := Lib.hid hon; have E6 := Lib.hid ((alloc_bel w5 _).trans hbl); clear hon hbl hg)
    | (at_builtin; refine wpList_append_bytes _ rfl (.tmp 38) (.tmp 39) rfl w5.heap.size A6 17 c6 ([2] ++ k) HSL.out rfl O6.out A n c a HN.out rfl ((HBA.out.below (bel_on D5.out E6.out)).src HN.out) (by omega) E6.out.size ?_; intro A7 c7 w7 hon hbl hg; have O7 := Lib.hid hon; have E7 := E6.out.trans hbl; have D7 := Lib.hid (bel_on D5.out E7); have Q7 := Lib.hid (Q5.out.below' E7); have X7 := Lib.hid (X5.out.below' E7); have Y7 := Lib.hid (Y5.out.below' E7); clear hon hbl hg E7)
    | (at_builtin; (first | rw [show (#[.int .u8 2] : Array Value) = (cellsB [2]).toArray from rfl] | skip); refine wpList_append_bytes _ rfl (.tmp 41) (.tmp 42) rfl w7.heap.size (some ⟨w7.heap.size, 0, none⟩) 1 1 [2] rfl rfl (OB.lit _ w7 [2] (Nat.le_refl _) (by simp) rfl) (some ⟨w.heap.size + 1, 0, none⟩) 16 16 q HQ.out rfl ((Q7.out.below' (alloc_bel w7 _)).src HQ.out) (by omega) (by simp) ?_; intro A8 c8 w8 hon hbl hg; have O8 := Lib.hid hon; have E8 := Lib.hid ((alloc_bel w7 _).trans hbl); clear hon hbl hg)
    | (at_builtin; refine wpList_append_bytes _ rfl (.tmp 43) (.tmp 44) rfl w7.heap.size A8 17 c8 ([2] ++ q) HTL.out rfl O8.out B m d b HM.out rfl ((HBB.out.below (bel_on D7.out E8.out)).src HM.out) (by omega) E8.out.size ?_; intro A9 c9 w9 hon hbl hg; have O9 := Lib.hid hon; have E9 := E8.out.trans hbl; have D9 := Lib.hid (bel_on D7.out E9); have S9 := Lib.hid (O7.out.below E9); have X9 := Lib.hid (X7.out.below' E9); have Y9 := Lib.hid (Y7.out.below' E9); clear hon hbl hg E9))
  have HS : Hid (∀ W, Below w9.heap.size w9 W → W.rangeAt w2.heap.size 0 (cellsB x) ∧ W.rangeAt w4.heap.size 0 (cellsB y) ∧ BR W A7 c7 ([2] ++ k ++ a) ∧ BR W A9 c9 ([2] ++ q ++ b)) := fun W hW => ⟨(X9.out.below' hW).range, (Y9.out.below' hW).range, (S9.out.br (by rw [HS1.out]; omega)).below hW, (O9.out.br (by rw [HT1.out]; omega)).below hW⟩
  have E0 : Below w9.heap.size w9 w9 := Below.refl _ _
  refine wp_region_noPanic ?_
  refine wp_region_held_drew (S := fun W => W.rangeAt w2.heap.size 0 (cellsB x) ∧ W.rangeAt w4.heap.size 0 (cellsB y) ∧ BR W A7 c7 ([2] ++ k ++ a) ∧ BR W A9 c9 ([2] ++ q ++ b)) (by kernel_rfl) (HS.out _ E0.drew) (fun hS => ?_)
  have E0 := E0.drew
  refine hd_load 0 (w2.heap.size) (0) (cellsB x) _ _ rfl rfl rfl (by kernel_rfl) (by kernel_rfl) (by kernel_rfl) (fun _ _ _ h => h) rfl (fun w hw => hw.1) under_key rfl (key_info HXL.out) hS ?_
  simp only [List.getElem_toArray, List.getElem_cons_succ, List.getElem_cons_zero, Act.put, List.setIfInBounds_toArray, List.set_cons_zero, List.set_cons_succ]
  refine hd_take 1 (_) rfl rfl (by kernel_rfl) (by kernel_rfl) (by kernel_rfl) (fun _ _ _ h => h) (fun w hw => by go_simp <;> rfl) hS ?_
  simp only [List.getElem_toArray, List.getElem_cons_succ, List.getElem_cons_zero, Act.put, List.setIfInBounds_toArray, List.set_cons_zero, List.set_cons_succ]
  refine hd_calls 2 38 #[.slice A7 (17 + n) c7] rfl rfl (by kernel_rfl) (by go_simp <;> rfl) ?_
  refine (HG1.out _ _ _ hS.2.2.1).mono ?_
  rintro e u1 ⟨rfl, hb⟩
  have E1_ := bel_on E0 hb
  have hS1_ := HS.out _ E1_
  clear hb
  refine ⟨_, rfl, hS1_, ?_⟩
  simp only [List.getElem_toArray, List.getElem_cons_succ, List.getElem_cons_zero, Act.put, List.setIfInBounds_toArray, List.set_cons_zero, List.set_cons_succ]
  refine hd_take 3 (.bool false) rfl rfl (by kernel_rfl) (by kernel_rfl) (by kernel_rfl) (fun _ _ _ h => h) (fun w hw => by have hx := equalIn_keys w x x HXL HXL; simp [go_sem, hx]) hS1_ ?_
  simp only [List.getElem_toArray, List.getElem_cons_succ, List.getElem_cons_zero, Act.put, List.setIfInBounds_toArray, List.set_cons_zero, List.set_cons_succ]
  refine hd_take 4 (_) rfl rfl (by kernel_rfl) (by kernel_rfl) (by kernel_rfl) (fun _ _ _ h => h) (fun w hw => by go_simp <;> rfl) hS1_ ?_
  simp only [List.getElem_toArray, List.getElem_cons_succ, List.getElem_cons_zero, Act.put, List.setIfInBounds_toArray, List.set_cons_zero, List.set_cons_succ]
  refine hg_load 5 (w4.heap.size) (0) (cellsB y) _ _ rfl rfl (by rfl) (by kernel_rfl) (by kernel_rfl) (by kernel_rfl) (fun _ _ _ h => h) rfl (fun w hw => hw.2.1) under_key rfl (key_info HYL.out) hS1_ ?_
  simp only [List.getElem_toArray, List.getElem_cons_succ, List.getElem_cons_zero, Act.put, List.setIfInBounds_toArray, List.set_cons_zero, List.set_cons_succ]
  refine hg_take 6 (_) rfl (by rfl) (by kernel_rfl) (by kernel_rfl) (by kernel_rfl) (fun _ _ _ h => h) (fun w hw => by go_simp <;> rfl) hS1_ ?_
  simp only [List.getElem_toArray, List.getElem_cons_succ, List.getElem_cons_zero, Act.put, List.setIfInBounds_toArray, List.set_cons_zero, List.set_cons_succ]
  refine hg_calls 7 38 #[.slice A9 (17 + m) c9] rfl (by rfl) (by kernel_rfl) (by go_simp <;> rfl) ?_
  refine (HG2.out _ _ _ hS1_.2.2.2).mono ?_
  rintro e u2 ⟨rfl, hb⟩
  have E2_ := bel_on E1_ hb
  have hS2_ := HS.out _ E2_
  clear hb
  refine ⟨_, rfl, hS2_, ?_⟩
  simp only [List.getElem_toArray, List.getElem_cons_succ, List.getElem_cons_zero, Act.put, List.setIfInBounds_toArray, List.set_cons_zero, List.set_cons_succ]
  refine hg_take 8 (.bool false) rfl (by rfl) (by kernel_rfl) (by kernel_rfl) (by kernel_rfl) (fun _ _ _ h => h) (fun w hw => by have hx := equalIn_keys w y y HYL HYL; simp [go_sem, hx]) hS2_ ?_
  simp only [List.getElem_toArray, List.getElem_cons_succ, List.getElem_cons_zero, Act.put, List.setIfInBounds_toArray, List.set_cons_zero, List.set_cons_succ]
  refine hd_take 9 (_) rfl rfl (by kernel_rfl) (by kernel_rfl) (by kernel_rfl) (fun _ _ _ h => h) (fun w hw => by go_simp <;> rfl) hS2_ ?_
  simp only [List.getElem_toArray, List.getElem_cons_succ, List.getElem_cons_zero, Act.put, List.setIfInBounds_toArray, List.set_cons_zero, List.set_cons_succ]
  refine wpAnyH_done (by kernel_rfl) (NoPanic.normal ?_) _
  have hF := hS2_
  have D10 := Lib.hid (bel_on D9.out E2_)
  have X10 := Lib.hid (X9.out.below' E2_)
  have Y10 := Lib.hid (Y9.out.below' E2_)
  have hs1 : (convert 22 9 (.slice A7 (17 + n) c7)).run Tryz.prog u2 = .ok (.string s1) u2 := by have := run_string_br hF.2.2.1 _ HS1.out; rw [HSS.out] at this; exact this
  have hs2 : (convert 22 9 (.slice A9 (17 + m) c9)).run Tryz.prog u2 = .ok (.string s1) u2 := by have := run_string_br hF.2.2.2 _ HT1.out; rw [HTT.out] at this; exact this
  have R1 := Lib.hid hF.2.2.1
  have R2 := Lib.hid hF.2.2.2
  clear hF hS hS1_ hS2_ HS E0 E1_ E2_
  have hxe := equalIn_keys u2 x y HXL HYL
  rw [HXY.out] at hxe
  go_wp2_with (first
    | (refine BigFrame.wpList_want (by kernel_rfl) fun K hK => wp_load_row 24 (.tmp 10) rfl w2.heap.size rfl 24 (cellsB x).toArray (0, 0) _ X10.out under_key rfl (cellsB_size _ HXL.out) (hK _ _ ?_))
    | (refine BigFrame.wpList_want (by kernel_rfl) fun K hK => wp_load_row 24 (.tmp 12) rfl w4.heap.size rfl 24 (cellsB y).toArray (0, 0) _ Y10.out under_key rfl (cellsB_size _ HYL.out) (hK _ _ ?_)))
  all_goals first | (exact absurd (eq_of_beq HXY.out) (by assumption)) | (exfalso; have hz := HXY.out; have hq : x = y := (by assumption); rw [hq, beq_self_eq_true] at hz; exact absurd hz (by decide)) | (go_ret; exact ⟨rfl, D10.out⟩)

set_option maxHeartbeats 8000000 in
set_option maxRecDepth 100000 in
theorem openings_clash (a : List UInt8) (A : Option Addr) (c : Nat) (k : List UInt8) (b : List UInt8) (B : Option Addr) (d : Nat) (q : List UInt8) (w : World) {n m : Nat} (hn : a.length = n) (hm : b.length = m) (ha : BR w A c a) (hk : k.length = 16) (hb' : BR w B d b) (hq : q.length = 16) (HA : Hid (∀ W, Below w.heap.size w W → Calls Tryz.prog 25 #[] W fun e w' => e = .returned (.bool true) ∧ Below W.heap.size W w')) (h1 : halfB a 1 = true) (h2 : halfB b 1 = true) (hxy : digS (openT a k) = digS (openT b q)) (hst : ¬ openT a k = openT b q) :
    Calls Tryz.prog 8 #[.slice A n c, .agg (cellsB k).toArray, .slice B m d, .agg (cellsB q).toArray] w fun e w' => e = .returned (.bool true) ∧ Below w.heap.size w w' := by
  have HC1 : Hid (∀ W, Below w.heap.size w W → Calls Tryz.prog 18 #[.slice A n c, .agg (cellsB k).toArray] W fun e w' => e = .returned (.tuple #[.agg (cellsB (cmS a k).1).toArray, .int .i64 (cmS a k).2]) ∧ Below W.heap.size W w') := fun W hW => Commit_any a k A c W hn hk (ha.below hW)
  have HC2 : Hid (∀ W, Below w.heap.size w W → Calls Tryz.prog 18 #[.slice B m d, .agg (cellsB q).toArray] W fun e w' => e = .returned (.tuple #[.agg (cellsB (cmS b q).1).toArray, .int .i64 (cmS b q).2]) ∧ Below W.heap.size W w') := fun W hW => Commit_any b q B d W hm hq (hb'.below hW)
  have HXL : Hid ((cmS a k).1.length = 16) := cmS_length _ _
  have HYL : Hid ((cmS b q).1.length = 16) := cmS_length _ _
  have e1 : cmS a k = (digS (openT a k), 0) := by unfold cmS; rw [if_pos h1]
  have e2 : cmS b q = (digS (openT b q), 0) := by unfold cmS; rw [if_pos h2]
  rw [e1] at HC1 HXL
  rw [e2] at HC2 HYL
  have n1 : n ≤ 1000 := by have := (halfB_iff.1 h1).1.2; omega
  have m1 : m ≤ 1000 := by have := (halfB_iff.1 h2).1.2; omega
  have n1i : (n : Int) ≤ 1000 := by omega
  have m1i : (m : Int) ≤ 1000 := by omega
  have HSL : Hid ((([2] : List UInt8) ++ k).length = 17) := by unfold Hid; simp [hk]
  have HTL : Hid ((([2] : List UInt8) ++ q).length = 17) := by unfold Hid; simp [hq]
  have HS1 : Hid ((([2] : List UInt8) ++ k ++ a).length = 17 + n) := by unfold Hid; simp [hk, hn]; omega
  have HT1 : Hid ((([2] : List UInt8) ++ q ++ b).length = 17 + m) := by unfold Hid; simp [hq, hm]; omega
  have HG1 : Hid (∀ W X x, BR W X x ([2] ++ k ++ a) → Calls Tryz.prog 38 #[.slice X (17 + n) x] W fun e w' => e = .returned (.agg (cellsB (digS (openT a k))).toArray) ∧ Below W.heap.size W w') := fun W X x h => lawDigest_any _ X x W HS1.out h (by omega)
  have HG2 : Hid (∀ W X x, BR W X x ([2] ++ q ++ b) → Calls Tryz.prog 38 #[.slice X (17 + m) x] W fun e w' => e = .returned (.agg (cellsB (digS (openT b q))).toArray) ∧ Below W.heap.size W w') := fun W X x h => lawDigest_any _ X x W HT1.out h (by omega)
  have HXY : Hid ((digS (openT a k) == digS (openT b q)) = true) := by unfold Hid; simpa using hxy
  obtain ⟨s1, hs0⟩ : ∃ s, strB (([2] : List UInt8) ++ k ++ a) = s := ⟨_, rfl⟩
  have HSS := Lib.hid hs0
  obtain ⟨s2, ht0⟩ : ∃ s, strB (([2] : List UInt8) ++ q ++ b) = s := ⟨_, rfl⟩
  have HTT := Lib.hid ht0
  have hss : ¬ s1 = s2 := by rw [← hs0, ← ht0]; exact fun h => hst (strB_inj h)
  have hsl : ¬ s1.toList = s2.toList := fun h => hss (toList_inj_ h)
  clear hs0 ht0
  have HCL : Hid (∀ X x Y y W, BR W X x ([2] ++ k ++ a) → BR W Y y ([2] ++ q ++ b) → Calls Tryz.prog 39 #[.slice (some ⟨W.heap.size + 1, 0, none⟩) 1 1] ((W.alloc (.cells #[.slice X (17 + n) x, .slice Y (17 + m) y] 22)).alloc (.cells #[.slice (some ⟨W.heap.size, 0, none⟩) 2 2] 71)) fun e w' => e = .returned (.bool true) ∧ Below W.heap.size W w') := fun X x Y y W g1 g2 => clashP_any X x _ Y y _ W HS1.out HT1.out g1 g2 (by omega) (by omega) ⟨openT a k, List.mem_cons_self, openT b q, List.mem_cons_of_mem _ List.mem_cons_self, hst, hxy⟩
  dsimp only at HC1 HC2 HXL HYL
  generalize digS (openT a k) = x at HC1 HXL HG1 HXY
  generalize digS (openT b q) = y at HC2 HYL HG2 HXY
  have hnl : (n : Int) ≤ 140737488351232 := by have := ha.len; omega
  have hml : (m : Int) ≤ 140737488351232 := by have := hb'.len; omega
  obtain ⟨W0, hW0⟩ : ∃ W, W = (w.alloc (.cells (cellsB k).toArray 24)).alloc (.cells (cellsB q).toArray 24) := ⟨_, rfl⟩
  have D0 : Hid (Below w.heap.size w W0) := by unfold Hid; rw [hW0]; exact alloc2_bel w _ _
  have K0 : Hid (Blk W0 w.heap.size 24 (cellsB k).toArray) := by unfold Hid; rw [hW0]; exact blk_b0 w _ _ _
  have Q0 : Hid (Blk W0 (w.heap.size + 1) 24 (cellsB q).toArray) := by unfold Hid; rw [hW0]; exact blk_b1 w _ _ _
  have HW0 := Lib.hid hW0
  have HK := Lib.hid hk
  have HQ := Lib.hid hq
  have HBA := Lib.hid ha
  have HBB := Lib.hid hb'
  have HN := Lib.hid hn
  have HM := Lib.hid hm
  clear hW0 hn hm ha hk hb' hq h1 h2 e1 e2 hxy hst
  go_enter Tryz.func8, Tryz.ntmps8
  go_wp2_with (first
    | (go_at_call 25; rw [← HW0.out]; (with_reducible refine (HA.out _ D0.out).mono ?_); rintro e w1 ⟨rfl, hb⟩; have D1 := Lib.hid (bel_on D0.out hb); have K1 := Lib.hid (K0.out.below' hb); have Q1 := Lib.hid (Q0.out.below' hb); clear hb)
    | (refine wpList_load_row rfl 24 (.tmp 5) rfl w.heap.size rfl 24 (cellsB k).toArray (0, 0) _ K1.out under_key rfl (cellsB_size _ HK.out) ?_)
    | (go_at_call 18; (with_reducible refine (HC1.out _ D1.out).mono ?_); rintro e w2 ⟨rfl, hb⟩; have D2 := Lib.hid (bel_on D1.out hb); have K2 := Lib.hid (K1.out.below' hb); have Q2 := Lib.hid (Q1.out.below' hb); clear hb)
    | ((first | rw [zero16] | skip); refine wpList_store_row rfl 24 (.tmp 10) (.tmp 21) rfl w2.heap.size (cellsB x).toArray rfl rfl 24 (cellsB zeroK).toArray (Blk.new w2 _ _) (cellsB_size _ HXL.out) (cellsB_sizes _ _ zeroK_length HXL.out) (cellsB_all _) ?_; obtain ⟨w3, hV⟩ : ∃ W, W = (w2.alloc (.cells (cellsB zeroK).toArray 24)).setRow w2.heap.size (cellsB x).toArray := ⟨_, rfl⟩; rw [← hV]; obtain ⟨hb, nb⟩ := keybox2_ _ _ _ _ hV; have D3 := Lib.hid (bel_on D2.out hb); have K3 := Lib.hid (K2.out.below' hb); have Q3 := Lib.hid (Q2.out.below' hb); have X3 := Lib.hid nb; clear hV hb nb)
    | (refine wpList_load_row rfl 24 (.tmp 7) rfl (w.heap.size + 1) rfl 24 (cellsB q).toArray (0, 0) _ Q3.out under_key rfl (cellsB_size _ HQ.out) ?_)
    | (go_at_call 18; (with_reducible refine (HC2.out _ D3.out).mono ?_); rintro e w4 ⟨rfl, hb⟩; have D4 := Lib.hid (bel_on D3.out hb); have K4 := Lib.hid (K3.out.below' hb); have Q4 := Lib.hid (Q3.out.below' hb); have X4 := Lib.hid (X3.out.below' hb); clear hb)
    | ((first | rw [zero16] | skip); refine wpList_store_row rfl 24 (.tmp 12) (.tmp 27) rfl w4.heap.size (cellsB y).toArray rfl rfl 24 (cellsB zeroK).toArray (Blk.new w4 _ _) (cellsB_size _ HYL.out) (cellsB_sizes _ _ zeroK_length HYL.out) (cellsB_all _) ?_; obtain ⟨w5, hV⟩ : ∃ W, W = (w4.alloc (.cells (cellsB zeroK).toArray 24)).setRow w4.heap.size (cellsB y).toArray := ⟨_, rfl⟩; rw [← hV]; obtain ⟨hb, nb⟩ := keybox2_ _ _ _ _ hV; have D5 := Lib.hid (bel_on D4.out hb); have K5 := Lib.hid (K4.out.below' hb); have Q5 := Lib.hid (Q4.out.below' hb); have X5 := Lib.hid (X4.out.below' hb); have Y5 := Lib.hid nb; clear hV hb nb)
    | (at_builtin; (first | rw [show (#[.int .u8 2] : Array Value) = (cellsB [2]).toArray from rfl] | skip); refine wpList_append_bytes _ rfl (.tmp 36) (.tmp 37) rfl w5.heap.size (some ⟨w5.heap.size, 0, none⟩) 1 1 [2] rfl rfl (OB.lit _ w5 [2] (Nat.le_refl _) (by simp) rfl) (some ⟨w.heap.size, 0, none⟩) 16 16 k HK.out rfl ((K5.out.below' (alloc_bel w5 _)).src HK.out) (by omega) (by simp) ?_; intro A6 c6 w6 hon hbl hg; have O6 := Lib.hid hon; have E6 := Lib.hid ((alloc_bel w5 _).trans hbl); clear hon hbl hg)
    | (at_builtin; refine wpList_append_bytes _ rfl (.tmp 38) (.tmp 39) rfl w5.heap.size A6 17 c6 ([2] ++ k) HSL.out rfl O6.out A n c a HN.out rfl ((HBA.out.below (bel_on D5.out E6.out)).src HN.out) (by omega) E6.out.size ?_; intro A7 c7 w7 hon hbl hg; have O7 := Lib.hid hon; have E7 := E6.out.trans hbl; have D7 := Lib.hid (bel_on D5.out E7); have Q7 := Lib.hid (Q5.out.below' E7); have X7 := Lib.hid (X5.out.below' E7); have Y7 := Lib.hid (Y5.out.below' E7); clear hon hbl hg E7)
    | (at_builtin; (first | rw [show (#[.int .u8 2] : Array Value) = (cellsB [2]).toArray from rfl] | skip); refine wpList_append_bytes _ rfl (.tmp 41) (.tmp 42) rfl w7.heap.size (some ⟨w7.heap.size, 0, none⟩) 1 1 [2] rfl rfl (OB.lit _ w7 [2] (Nat.le_refl _) (by simp) rfl) (some ⟨w.heap.size + 1, 0, none⟩) 16 16 q HQ.out rfl ((Q7.out.below' (alloc_bel w7 _)).src HQ.out) (by omega) (by simp) ?_; intro A8 c8 w8 hon hbl hg; have O8 := Lib.hid hon; have E8 := Lib.hid ((alloc_bel w7 _).trans hbl); clear hon hbl hg)
    | (at_builtin; refine wpList_append_bytes _ rfl (.tmp 43) (.tmp 44) rfl w7.heap.size A8 17 c8 ([2] ++ q) HTL.out rfl O8.out B m d b HM.out rfl ((HBB.out.below (bel_on D7.out E8.out)).src HM.out) (by omega) E8.out.size ?_; intro A9 c9 w9 hon hbl hg; have O9 := Lib.hid hon; have E9 := E8.out.trans hbl; have D9 := Lib.hid (bel_on D7.out E9); have S9 := Lib.hid (O7.out.below E9); have X9 := Lib.hid (X7.out.below' E9); have Y9 := Lib.hid (Y7.out.below' E9); clear hon hbl hg E9))
  have HS : Hid (∀ W, Below w9.heap.size w9 W → W.rangeAt w2.heap.size 0 (cellsB x) ∧ W.rangeAt w4.heap.size 0 (cellsB y) ∧ BR W A7 c7 ([2] ++ k ++ a) ∧ BR W A9 c9 ([2] ++ q ++ b)) := fun W hW => ⟨(X9.out.below' hW).range, (Y9.out.below' hW).range, (S9.out.br (by rw [HS1.out]; omega)).below hW, (O9.out.br (by rw [HT1.out]; omega)).below hW⟩
  have E0 : Below w9.heap.size w9 w9 := Below.refl _ _
  refine wp_region_noPanic ?_
  refine wp_region_held_drew (S := fun W => W.rangeAt w2.heap.size 0 (cellsB x) ∧ W.rangeAt w4.heap.size 0 (cellsB y) ∧ BR W A7 c7 ([2] ++ k ++ a) ∧ BR W A9 c9 ([2] ++ q ++ b)) (by kernel_rfl) (HS.out _ E0.drew) (fun hS => ?_)
  have E0 := E0.drew
  refine hd_load 0 (w2.heap.size) (0) (cellsB x) _ _ rfl rfl rfl (by kernel_rfl) (by kernel_rfl) (by kernel_rfl) (fun _ _ _ h => h) rfl (fun w hw => hw.1) under_key rfl (key_info HXL.out) hS ?_
  simp only [List.getElem_toArray, List.getElem_cons_succ, List.getElem_cons_zero, Act.put, List.setIfInBounds_toArray, List.set_cons_zero, List.set_cons_succ]
  refine hd_take 1 (_) rfl rfl (by kernel_rfl) (by kernel_rfl) (by kernel_rfl) (fun _ _ _ h => h) (fun w hw => by go_simp <;> rfl) hS ?_
  simp only [List.getElem_toArray, List.getElem_cons_succ, List.getElem_cons_zero, Act.put, List.setIfInBounds_toArray, List.set_cons_zero, List.set_cons_succ]
  refine hd_calls 2 38 #[.slice A7 (17 + n) c7] rfl rfl (by kernel_rfl) (by go_simp <;> rfl) ?_
  refine (HG1.out _ _ _ hS.2.2.1).mono ?_
  rintro e u1 ⟨rfl, hb⟩
  have E1_ := bel_on E0 hb
  have hS1_ := HS.out _ E1_
  clear hb
  refine ⟨_, rfl, hS1_, ?_⟩
  simp only [List.getElem_toArray, List.getElem_cons_succ, List.getElem_cons_zero, Act.put, List.setIfInBounds_toArray, List.set_cons_zero, List.set_cons_succ]
  refine hd_take 3 (.bool false) rfl rfl (by kernel_rfl) (by kernel_rfl) (by kernel_rfl) (fun _ _ _ h => h) (fun w hw => by have hx := equalIn_keys w x x HXL HXL; simp [go_sem, hx]) hS1_ ?_
  simp only [List.getElem_toArray, List.getElem_cons_succ, List.getElem_cons_zero, Act.put, List.setIfInBounds_toArray, List.set_cons_zero, List.set_cons_succ]
  refine hd_take 4 (_) rfl rfl (by kernel_rfl) (by kernel_rfl) (by kernel_rfl) (fun _ _ _ h => h) (fun w hw => by go_simp <;> rfl) hS1_ ?_
  simp only [List.getElem_toArray, List.getElem_cons_succ, List.getElem_cons_zero, Act.put, List.setIfInBounds_toArray, List.set_cons_zero, List.set_cons_succ]
  refine hg_load 5 (w4.heap.size) (0) (cellsB y) _ _ rfl rfl (by rfl) (by kernel_rfl) (by kernel_rfl) (by kernel_rfl) (fun _ _ _ h => h) rfl (fun w hw => hw.2.1) under_key rfl (key_info HYL.out) hS1_ ?_
  simp only [List.getElem_toArray, List.getElem_cons_succ, List.getElem_cons_zero, Act.put, List.setIfInBounds_toArray, List.set_cons_zero, List.set_cons_succ]
  refine hg_take 6 (_) rfl (by rfl) (by kernel_rfl) (by kernel_rfl) (by kernel_rfl) (fun _ _ _ h => h) (fun w hw => by go_simp <;> rfl) hS1_ ?_
  simp only [List.getElem_toArray, List.getElem_cons_succ, List.getElem_cons_zero, Act.put, List.setIfInBounds_toArray, List.set_cons_zero, List.set_cons_succ]
  refine hg_calls 7 38 #[.slice A9 (17 + m) c9] rfl (by rfl) (by kernel_rfl) (by go_simp <;> rfl) ?_
  refine (HG2.out _ _ _ hS1_.2.2.2).mono ?_
  rintro e u2 ⟨rfl, hb⟩
  have E2_ := bel_on E1_ hb
  have hS2_ := HS.out _ E2_
  clear hb
  refine ⟨_, rfl, hS2_, ?_⟩
  simp only [List.getElem_toArray, List.getElem_cons_succ, List.getElem_cons_zero, Act.put, List.setIfInBounds_toArray, List.set_cons_zero, List.set_cons_succ]
  refine hg_take 8 (.bool false) rfl (by rfl) (by kernel_rfl) (by kernel_rfl) (by kernel_rfl) (fun _ _ _ h => h) (fun w hw => by have hx := equalIn_keys w y y HYL HYL; simp [go_sem, hx]) hS2_ ?_
  simp only [List.getElem_toArray, List.getElem_cons_succ, List.getElem_cons_zero, Act.put, List.setIfInBounds_toArray, List.set_cons_zero, List.set_cons_succ]
  refine hd_take 9 (_) rfl rfl (by kernel_rfl) (by kernel_rfl) (by kernel_rfl) (fun _ _ _ h => h) (fun w hw => by go_simp <;> rfl) hS2_ ?_
  simp only [List.getElem_toArray, List.getElem_cons_succ, List.getElem_cons_zero, Act.put, List.setIfInBounds_toArray, List.set_cons_zero, List.set_cons_succ]
  refine wpAnyH_done (by kernel_rfl) (NoPanic.normal ?_) _
  have hF := hS2_
  have D10 := Lib.hid (bel_on D9.out E2_)
  have X10 := Lib.hid (X9.out.below' E2_)
  have Y10 := Lib.hid (Y9.out.below' E2_)
  have hs1 : (convert 22 9 (.slice A7 (17 + n) c7)).run Tryz.prog u2 = .ok (.string s1) u2 := by have := run_string_br hF.2.2.1 _ HS1.out; rw [HSS.out] at this; exact this
  have hs2 : (convert 22 9 (.slice A9 (17 + m) c9)).run Tryz.prog u2 = .ok (.string s2) u2 := by have := run_string_br hF.2.2.2 _ HT1.out; rw [HTT.out] at this; exact this
  have R1 := Lib.hid hF.2.2.1
  have R2 := Lib.hid hF.2.2.2
  clear hF hS hS1_ hS2_ HS E0 E1_ E2_
  have hxe := equalIn_keys u2 x y HXL HYL
  rw [HXY.out] at hxe
  go_wp2_with (first
    | (refine BigFrame.wpList_want (by kernel_rfl) fun K hK => wp_load_row 24 (.tmp 10) rfl w2.heap.size rfl 24 (cellsB x).toArray (0, 0) _ X10.out under_key rfl (cellsB_size _ HXL.out) (hK _ _ ?_))
    | (refine BigFrame.wpList_want (by kernel_rfl) fun K hK => wp_load_row 24 (.tmp 12) rfl w4.heap.size rfl 24 (cellsB y).toArray (0, 0) _ Y10.out under_key rfl (cellsB_size _ HYL.out) (hK _ _ ?_))
    | (go_at_call 39; (with_reducible refine (HCL.out _ _ _ _ _ R1.out R2.out).mono ?_); rintro e u3 ⟨rfl, hb⟩; have D11 := Lib.hid (bel_on D10.out hb); clear hb))
  all_goals first | (exact absurd (eq_of_beq HXY.out) (by assumption)) | (exfalso; have hz := HXY.out; have hq : x = y := (by assumption); rw [hq, beq_self_eq_true] at hz; exact absurd hz (by decide)) | (go_ret; exact ⟨rfl, D11.out⟩)

theorem auditOpenings_walk (A : Option Addr) (c : Nat) (a : List UInt8) (k : List UInt8) (B : Option Addr) (d : Nat) (b : List UInt8) (q : List UInt8) (w : World) (ha : BR w A c a) (hk : k.length = 16) (hb' : BR w B d b) (hq : q.length = 16) (hT : TestsIn w) :
    Calls Tryz.prog 8 #[.slice A a.length c, .agg (cellsB k).toArray, .slice B b.length d, .agg (cellsB q).toArray] w fun e w' => e = .returned (.bool true) ∧ Below w.heap.size w w' := by
  have HA : Hid (∀ W, Below w.heap.size w W → Calls Tryz.prog 25 #[] W fun e w' => e = .returned (.bool true) ∧ Below W.heap.size W w') := fun W hW => alive_any W (range_below hT hW)
  cases h1 : halfB a 1 with
  | false => exact openings_bad a A c k b B d q w rfl rfl ha hk hb' hq HA (.inl h1)
  | true =>
    cases h2 : halfB b 1 with
    | false => exact openings_bad a A c k b B d q w rfl rfl ha hk hb' hq HA (.inr h2)
    | true =>
      by_cases hxy : digS (openT a k) = digS (openT b q)
      · by_cases hst : openT a k = openT b q
        · exact openings_same a A c k b B d q w rfl rfl ha hk hb' hq HA h1 h2 hxy hst
        · exact openings_clash a A c k b B d q w rfl rfl ha hk hb' hq HA h1 h2 hxy hst
      · exact openings_apart a A c k b B d q w rfl rfl ha hk hb' hq HA h1 h2 hxy
end Go.Proofs.YtinpiodfpnbllaaGreatDoor
