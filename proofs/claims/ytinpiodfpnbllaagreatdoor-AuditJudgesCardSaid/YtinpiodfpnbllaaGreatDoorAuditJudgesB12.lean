/-
  Lemmas and contracts, joined: part 12.
-/
import Derived.Test.YtinpiodfpnbllaaGreatDoorAuditJudgesB8
import Derived.Test.YtinpiodfpnbllaaGreatDoorAuditJudgesB11
set_option linter.unusedSimpArgs false
set_option linter.unusedVariables false
set_option linter.unnecessarySimpa false
/- The law on commitments, chances of a match and verdicts. -/
namespace Go.Proofs.YtinpiodfpnbllaaGreatDoor
open Go.RowKit
set_option linter.unusedVariables false
set_option linter.unusedSimpArgs false
attribute [local go_sem] equalIn_keys

theorem keybox_ (w : World) (c0 z0 : Array Value) (t0 : TypeId) {W : World} (hW : W = (w.alloc (.cells z0 t0)).setRow w.heap.size c0) : Below w.heap.size w W ∧ Blk W w.heap.size t0 c0 := by
  subst hW
  exact ⟨below_setRow (alloc_bel w _) (Nat.le_refl _) _, (Blk.new w _ _).setRow _⟩
theorem frac2_open {W w' : World} {e : Ending} {r : (List Nat × List Nat) × Int} (h : Frac2 W w' e r) : ∃ X x Z z, e = .returned (.tuple #[.agg #[.slice X r.1.1.length x, .slice Z r.1.2.length z], .int .i64 r.2]) ∧ NR w' X x r.1.1 ∧ NR w' Z z r.1.2 ∧ Below W.heap.size W w' := by
  obtain ⟨v, rfl, X, x, Z, z, rfl, h1, h2, _, hb⟩ := h
  exact ⟨X, x, Z, z, rfl, h1.nr_, h2.nr_, hb⟩

set_option maxHeartbeats 8000000 in
set_option maxRecDepth 100000 in
theorem auditJudges_in (B : Option Addr) (d : Nat) (l K : List UInt8) (i j : Int) (v : CV) (A : Option Addr) (m c : Nat) (Y : Option Addr) (n y : Nat) (H : Option Addr) (k h : Nat) (w : World) (hl : BR w B d l) (hK : K.length = 16) (g : CaseOK w v A m c Y n y H k h) (hT : TestsIn w) {N : Nat} (hN : l.length = N) :
    Calls Tryz.prog 3 #[.slice B N d, .agg (cellsB K).toArray, .int .i64 i, .int .i64 j, .agg (caseC v A m c Y n y H k h).toArray] w fun e w' => e = .returned (.bool true) ∧ Below w.heap.size w w' := by
  have b0 := alloc2_bel w (.cells (cellsB K).toArray 24) (.cells (caseC v A m c Y n y H k h).toArray 29)
  have Q0 := blk_b0 w (cellsB K).toArray 24 (.cells (caseC v A m c Y n y H k h).toArray 29)
  have P0 := blk_b1 w (.cells (cellsB K).toArray 24) (caseC v A m c Y n y H k h).toArray 29
  have HCI := Lib.hid (case_info (v := v) (A := A) (m := m) (c := c) (Y := Y) (n := n) (y := y) (H := H) (k := k) (h := h) g.r16 g.c16 g.n16)
  have HK := Lib.hid hK
  have HT : Hid (∀ W, Below w.heap.size w W → TestsIn W) := fun W hW => range_below hT hW
  have HZ : Hid (0 = 0) := rfl
  have H1 : Hid (∀ W, Below w.heap.size w W → Calls Tryz.prog 18 #[.slice B N d, .agg (cellsB K).toArray] W fun e w' => e = .returned (.tuple #[.agg (cellsB (cmS l K).1).toArray, .int .i64 (cmS l K).2]) ∧ Below W.heap.size W w') := fun W hW => Commit_any l K B d W hN hK (hl.below hW)
  have H2 : Hid (∀ W, Below w.heap.size w W → Calls Tryz.prog 19 #[.slice B N d, .agg (cellsB K).toArray] W fun e w' => e = .returned (.tuple #[.agg (cellsB (cmS l K).1).toArray, .int .i64 (cmS l K).2]) ∧ Below W.heap.size W w') := fun W hW => refCommit_any l K B d W hN hK (hl.below hW)
  have H3 : Hid (∀ W, Calls Tryz.prog 20 #[.int .i64 i, .int .i64 j] W fun e w' => ∃ X x Z z, e = .returned (.tuple #[.agg #[.slice X (mcS i j).1.1.length x, .slice Z (mcS i j).1.2.length z], .int .i64 (mcS i j).2]) ∧ NR w' X x (mcS i j).1.1 ∧ NR w' Z z (mcS i j).1.2 ∧ Below W.heap.size W w') := fun W => (MatchChance_any i j W).mono fun e w' h => frac2_open h
  have H4 : Hid (∀ W, Calls Tryz.prog 21 #[.int .i64 i, .int .i64 j] W fun e w' => ∃ X x Z z, e = .returned (.tuple #[.agg #[.slice X (mcS i j).1.1.length x, .slice Z (mcS i j).1.2.length z], .int .i64 (mcS i j).2]) ∧ NR w' X x (mcS i j).1.1 ∧ NR w' Z z (mcS i j).1.2 ∧ Below W.heap.size W w') := fun W => (refMatchChance_any i j W).mono fun e w' h => frac2_open h
  have H6 : Hid (∀ W, Below w.heap.size w W → Calls Tryz.prog 23 #[.agg (caseC v A m c Y n y H k h).toArray] W fun e w' => e = .returned (.tuple #[.int .u8 (judgeS v).1, .int .i64 (judgeS v).2]) ∧ Below W.heap.size W w') := fun W hW => Judge_any v A m c Y n y H k h W (g.below hW) (HT.out W hW)
  have H7 : Hid (∀ W, Below w.heap.size w W → Calls Tryz.prog 24 #[.agg (caseC v A m c Y n y H k h).toArray] W fun e w' => e = .returned (.tuple #[.int .u8 (judgeS v).1, .int .i64 (judgeS v).2]) ∧ Below W.heap.size W w') := fun W hW => refJudge_any v A m c Y n y H k h W (g.below hW)
  have hk3 := cmS_length l K
  generalize cmS l K = r1 at H1 H2 hk3
  generalize mcS i j = r2 at H3 H4
  generalize judgeS v = r3 at H6 H7
  generalize caseC v A m c Y n y H k h = cs at b0 Q0 P0 HCI H6 H7 ⊢
  obtain ⟨k3, e3⟩ := r1
  obtain ⟨⟨p, q⟩, e4⟩ := r2
  obtain ⟨u, e5⟩ := r3
  dsimp only at H1 H2 H3 H4 H6 H7 hk3
  obtain ⟨Np, hp⟩ : ∃ N, p.length = N := ⟨_, rfl⟩
  obtain ⟨Nq, hq⟩ : ∃ N, q.length = N := ⟨_, rfl⟩
  rw [hp, hq] at H3 H4
  have H5 : Hid (∀ W X x Z z X' x' Z' z', NR W X x p → NR W Z z q → NR W X' x' p → NR W Z' z' q → Calls Tryz.prog 22 #[.agg #[.slice X Np x, .slice Z Nq z], .agg #[.slice X' Np x', .slice Z' Nq z']] W fun e w' => e = .returned (.bool true) ∧ Below W.heap.size W w') := fun W X x Z z X' x' Z' z' a1 a2 a3 a4 => by
    have := SameFraction_any X x p Z z q X' x' p Z' z' q W hp hq hp hq a1 a2 a3 a4
    rwa [sameB_self, sameB_self] at this
  have HK3 := Lib.hid hk3
  obtain ⟨W0, hW0⟩ : ∃ W, W = (w.alloc (.cells (cellsB K).toArray 24)).alloc (.cells cs.toArray 29) := ⟨_, rfl⟩
  rw [← hW0] at b0 Q0 P0
  have HW0 := Lib.hid hW0
  have D0 : Below W0.heap.size W0 W0 := Below.refl _ _
  have HQ : Hid (∀ W, Below W0.heap.size W0 W → Blk W w.heap.size 24 (cellsB K).toArray) := fun W hW => Q0.below' hW
  have HP : Hid (∀ W, Below W0.heap.size W0 W → Blk W (w.heap.size + 1) 29 cs.toArray) := fun W hW => P0.below' hW
  have hall := all16 k3
  clear hl hK g hT hN hW0 Q0 P0 HT hp hq hk3
  go_enter Tryz.func3, Tryz.ntmps3
  go_wp2_with (first
    | (refine wpList_load_row rfl 24 (.tmp 6) rfl w.heap.size rfl 24 (cellsB K).toArray (0, 0) _ (HQ.out _ E1.out) under_key rfl (cellsB_size _ HK.out) ?_)
    | ((first | rw [← HW0.out] | skip); refine wpList_load_row rfl 24 (.tmp 6) rfl w.heap.size rfl 24 (cellsB K).toArray (0, 0) _ (HQ.out _ D0) under_key rfl (cellsB_size _ HK.out) ?_)
    | (go_at_call 18; (with_reducible refine (H1.out _ b0).mono ?_); rintro e w1 ⟨rfl, hb1⟩; have D1 := Lib.hid (bel_on D0 hb1); clear hb1)
    | ((first | rw [zero16] | skip); refine wpList_store_row rfl 24 (.tmp 11) (.tmp 23) rfl w1.heap.size (cellsB k3).toArray rfl rfl 24 (cellsB zeroK).toArray (Blk.new w1 _ _) (cellsB_size _ HK3.out) (cellsB_sizes _ _ zeroK_length HK3.out) (cellsB_all _) ?_; obtain ⟨W1, hW1⟩ : ∃ W, W = (w1.alloc (.cells (cellsB zeroK).toArray 24)).setRow w1.heap.size (cellsB k3).toArray := ⟨_, rfl⟩; rw [← hW1]; obtain ⟨g1, n1⟩ := keybox_ _ _ _ _ hW1; have E1 := Lib.hid (bel_on D1.out g1); have N1 := Lib.hid n1; clear hW1 g1 n1)
    | (go_at_call 19; (with_reducible refine (H2.out _ (bel_on b0 E1.out)).mono ?_); rintro e w2 ⟨rfl, hb2⟩; have D2 := Lib.hid (bel_on E1.out hb2); have N2 := Lib.hid (N1.out.below' hb2); clear hb2)
    | ((first | rw [zero16] | skip); refine wpList_store_row rfl 24 (.tmp 13) (.tmp 29) rfl w2.heap.size (cellsB k3).toArray rfl rfl 24 (cellsB zeroK).toArray (Blk.new w2 _ _) (cellsB_size _ HK3.out) (cellsB_sizes _ _ zeroK_length HK3.out) (cellsB_all _) ?_; obtain ⟨W2, hW2⟩ : ∃ W, W = (w2.alloc (.cells (cellsB zeroK).toArray 24)).setRow w2.heap.size (cellsB k3).toArray := ⟨_, rfl⟩; rw [← hW2]; obtain ⟨g2, n2⟩ := keybox_ _ _ _ _ hW2; have E2 := Lib.hid (bel_on D2.out g2); have M2 := Lib.hid (N2.out.below' g2); have V2 := Lib.hid n2; clear hW2 g2 n2)
    | (refine wpList_load_row rfl 24 (.tmp 11) rfl w1.heap.size rfl 24 (cellsB k3).toArray (0, 0) _ M2.out under_key rfl (cellsB_size _ HK3.out) ?_)
    | (refine wpList_load_row rfl 24 (.tmp 13) rfl w2.heap.size rfl 24 (cellsB k3).toArray (0, 0) _ V2.out under_key rfl (cellsB_size _ HK3.out) ?_)
    | (go_at_call 20; (with_reducible refine (H3.out _).mono ?_); rintro e w3 ⟨X, x, Z, z, rfl, nx, nz, hb3⟩; have D3 := Lib.hid (bel_on E2.out hb3); have NX := Lib.hid nx; have NZ := Lib.hid nz; clear hb3 nx nz)
    | (refine wpList_store_row rfl 38 (.tmp 15) (.tmp 43) rfl w3.heap.size #[.slice X Np x, .slice Z Nq z] rfl rfl 38 #[.slice none 0 0, .slice none 0 0] (Blk.new w3 _ _) (by kernel_rfl) rfl (by simp [Value.oneCell']) ?_; obtain ⟨W3, hW3⟩ : ∃ W, W = (w3.alloc (.cells #[.slice none 0 0, .slice none 0 0] 38)).setRow w3.heap.size #[.slice X Np x, .slice Z Nq z] := ⟨_, rfl⟩; rw [← hW3]; obtain ⟨g3, n3⟩ := keybox_ _ _ _ _ hW3; have E3 := Lib.hid (bel_on D3.out g3); have N3 := Lib.hid n3; have NX3 := Lib.hid (NX.out.below g3); have NZ3 := Lib.hid (NZ.out.below g3); clear hW3 g3 n3)
    | (go_at_call 21; (with_reducible refine (H4.out _).mono ?_); rintro e w4 ⟨X', x', Z', z', rfl, nx, nz, hb4⟩; have D4 := Lib.hid (bel_on E3.out hb4); have N4 := Lib.hid (N3.out.below' hb4); have NX4 := Lib.hid (NX3.out.below hb4); have NZ4 := Lib.hid (NZ3.out.below hb4); have RX := Lib.hid nx; have RZ := Lib.hid nz; clear hb4 nx nz)
    | (refine wpList_store_row rfl 38 (.tmp 16) (.tmp 49) rfl w4.heap.size #[.slice X' Np x', .slice Z' Nq z'] rfl rfl 38 #[.slice none 0 0, .slice none 0 0] (Blk.new w4 _ _) (by kernel_rfl) rfl (by simp [Value.oneCell']) ?_; obtain ⟨W4, hW4⟩ : ∃ W, W = (w4.alloc (.cells #[.slice none 0 0, .slice none 0 0] 38)).setRow w4.heap.size #[.slice X' Np x', .slice Z' Nq z'] := ⟨_, rfl⟩; rw [← hW4]; obtain ⟨g4, n4⟩ := keybox_ _ _ _ _ hW4; have E4 := Lib.hid (bel_on D4.out g4); have V4 := Lib.hid n4; have M4 := Lib.hid (N4.out.below' g4); have NX5 := Lib.hid (NX4.out.below g4); have NZ5 := Lib.hid (NZ4.out.below g4); have RX5 := Lib.hid (RX.out.below g4); have RZ5 := Lib.hid (RZ.out.below g4); clear hW4 g4 n4)
    | (refine wpList_load_row rfl 38 (.tmp 15) rfl w3.heap.size rfl 38 #[.slice X Np x, .slice Z Nq z] (0, 0) _ M4.out Tryz.underlying38 rfl (by kernel_rfl) ?_)
    | (refine wpList_load_row rfl 38 (.tmp 16) rfl w4.heap.size rfl 38 #[.slice X' Np x', .slice Z' Nq z'] (0, 0) _ V4.out Tryz.underlying38 rfl (by kernel_rfl) ?_)
    | (go_at_call 22; (with_reducible refine (H5.out _ _ _ _ _ _ _ _ _ NX5.out NZ5.out RX5.out RZ5.out).mono ?_); rintro e w5 ⟨rfl, hb5⟩; have D5 := Lib.hid (bel_on E4.out hb5); clear hb5)
    | (refine wpList_load_row rfl 29 (.tmp 9) rfl (w.heap.size + 1) rfl 29 cs.toArray (0, 0) _ (HP.out _ D6.out) Tryz.underlying29 rfl HCI.out ?_)
    | (refine wpList_load_row rfl 29 (.tmp 9) rfl (w.heap.size + 1) rfl 29 cs.toArray (0, 0) _ (HP.out _ D5.out) Tryz.underlying29 rfl HCI.out ?_)
    | (go_at_call 23; (with_reducible refine (H6.out _ (bel_on b0 D5.out)).mono ?_); rintro e w6 ⟨rfl, hb6⟩; have D6 := Lib.hid (bel_on D5.out hb6); clear hb6)
    | (go_at_call 24; (with_reducible refine (H7.out _ (bel_on b0 D6.out)).mono ?_); rintro e w7 ⟨rfl, hb7⟩; have D7 := Lib.hid (bel_on D6.out hb7); clear hb7)
    | rw [← HW0.out])
  go_ret
  exact ⟨rfl, bel_on b0 D7.out⟩

theorem auditJudges_walk (B : Option Addr) (d : Nat) (l K : List UInt8) (i j : Int) (v : CV) (A : Option Addr) (m c : Nat) (Y : Option Addr) (n y : Nat) (H : Option Addr) (k h : Nat) (w : World) (hl : BR w B d l) (hK : K.length = 16) (_ : -9223372036854775808 ≤ i) (_ : i ≤ 9223372036854775807) (_ : -9223372036854775808 ≤ j) (_ : j ≤ 9223372036854775807) (g : CaseOK w v A m c Y n y H k h) (hT : TestsIn w) :
    Calls Tryz.prog 3 #[.slice B l.length d, .agg (cellsB K).toArray, .int .i64 i, .int .i64 j, .agg (caseC v A m c Y n y H k h).toArray] w fun e w' => e = .returned (.bool true) ∧ Below w.heap.size w w' := auditJudges_in B d l K i j v A m c Y n y H k h w hl hK g hT rfl
end Go.Proofs.YtinpiodfpnbllaaGreatDoor
