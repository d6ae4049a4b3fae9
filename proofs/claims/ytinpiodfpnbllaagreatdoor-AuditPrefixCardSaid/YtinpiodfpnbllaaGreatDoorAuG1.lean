/-
  Lemmas and contracts, joined.
-/
import Derived.Deep.QuietTactic
import Derived.BigQuiet
import Derived.Test.YtinpiodfpnbllaaGreatDoorAuB3
import Derived.Test.YtinpiodfpnbllaaGreatDoorAuB2
import Derived.Test.YtinpiodfpnbllaaGreatDoorAuB5
set_option linter.unusedSimpArgs false
set_option linter.unusedVariables false
set_option linter.unnecessarySimpa false
/- The growth of a list: the program's. -/
namespace Go.Proofs.YtinpiodfpnbllaaGreatDoor
open Go.RowKit
set_option linter.unusedVariables false
set_option linter.unusedSimpArgs false

theorem OK16.set_apart {B : Nat} {w : World} {A : Option Addr} {c : Nat} {ks : List (List UInt8)} (h : OK16 B w A c ks) (p : Addr) (u : Value) (hp : p.block < B) : OK16 B (w.setCell p u) A c ks := h.set_low p u hp
theorem blk3_set {w : World} {g : Nat} {t : TypeId} {x y z : Value} (h : Blk w g t #[x, y, z]) (u : Value) : Blk (w.setCell ⟨g, 2, none⟩ u) g t #[x, y, u] := by simpa using h.set_ 2 u

theorem op_skip {P : Program} {ops : Array Oper} {Q : Exit → Act → World → Prop} {a : Act} {w : World} {i : Nat} {oi : Oper} {K : Act → World → Prop} (w' : World) (hi : ops[i]? = some oi) (hg : oi.guard = none) (hrun : (execOp a.eval oi).run P w = .ok .skip w')
    (h : K (a.put oi.dst undef) w') : wpOp P ops Q i K a w := by
  have hw : Region.wanted oi (yielded ops a.tmps) = true := by simp [Region.wanted, hg]
  unfold wpOp
  simp only [hi, hw, if_true]
  refine .inl ?_
  unfold Oper.wp
  rw [hrun]
  exact h

set_option maxHeartbeats 4000000 in
set_option maxRecDepth 100000 in
theorem ProveGrowth_in (ks : List (List UInt8)) (i : Nat) (A : Option Addr) (c : Nat) (w : World) {n : Nat} (hn : ks.length = n) (hi1 : 1 ≤ i) (hi : i ≤ n) (hbig : n ≤ 128) (h : KR w A c ks) :
    Calls Tryz.prog 52 #[.slice A n c, .int .i64 (i : Int)] w fun e w' => PrEnd w.heap.size i n (partS ks i true) 0 e w' ∧ Below w.heap.size w w' := by
  obtain ⟨P0, hP0⟩ : ∃ P, P = partS ks i true := ⟨_, rfl⟩
  have HN := Lib.hid hn
  have HI := Lib.hid hi
  have HI1 := Lib.hid hi1
  have HH := Lib.hid h
  have HP0 := Lib.hid hP0
  have HBG := Lib.hid hbig
  have hnb : (n : Int) ≤ 128 := by omega
  have hin : (i : Int) ≤ (n : Int) := by omega
  have hi1i : (1 : Int) ≤ (i : Int) := by omega
  have b0 := (alloc_bel w (.cells #[.int .i64 0, .int .i64 0, .slice none 0 0] 80)).alloc (by simp) (.cells #[.int .i64 (i : Int), .int .i64 (n : Int), .slice none 0 0] 80)
  rw [← hP0]
  clear hP0 hn h hi hbig hi1
  go_enter Tryz.func52, Tryz.ntmps52
  go_wp2_with fail
  have hd1 : decide (n < i) = false := decide_eq_false (by have := HI.out; omega)
  simp only [hd1, Bool.or_false]
  clear hd1
  go_loopw [0, 1, 7] (fun v0 v1 v7 wr => ∃ (ls : List (List UInt8)) (m : Nat) (j : Nat) (B : Option Addr) (d : Nat) (os : List (List UInt8)) (q : Nat) (O : Option Addr) (co : Nat) (wh : Bool), v0 = .slice B m d ∧ v1 = .int .i64 (j : Int) ∧ v7 = .bool wh ∧ ls.length = m ∧ os.length = q ∧ 1 ≤ j ∧ j ≤ m ∧ m + q ≤ n ∧ KR w B d ls ∧ OK16 (w.heap.size + 2) wr O co os ∧ Keys16 os ∧ P0 = partS ls j wh ++ os.reverse ∧ Blk wr (w.heap.size + 1) 80 #[.int .i64 (i : Int), .int .i64 (n : Int), .slice O q co] ∧ Blk wr w.heap.size 80 #[.int .i64 0, .int .i64 0, .slice none 0 0] ∧ Below w.heap.size w wr) (fun v0 _ _ _ => lenV v0)
  case atStart => exact ⟨ks, n, i, A, c, [], 0, none, 0, true, rfl, rfl, rfl, HN.out, rfl, HI1.out, HI.out, by omega, HH.out, OK16.nil _ _, (by intro k hk; cases hk), (by rw [HP0.out]; simp), by have := Blk.new (w.alloc (.cells #[.int .i64 0, .int .i64 0, .slice none 0 0] 80)) 80 #[.int .i64 (i : Int), .int .i64 (n : Int), .slice none 0 0]; rw [World.size_alloc] at this; exact this, (Blk.new w _ _).alloc _, b0⟩
  case round =>
    obtain ⟨ls, m, j, B, d, os, q, O, co, wh, rfl, rfl, rfl, hls, hos, hj1, hj, hmq, hkr, hok, hk16, hP, hg, hr, hb⟩ := hrel
    have hbig := HBG.out
    have HB := Lib.hid hb
    have HOK := Lib.hid hok
    have HOS := Lib.hid hos
    have HKK := Lib.hid hk16
    have HG := Lib.hid hg
    have HR := Lib.hid hr
    have hgl : w.heap.size + 1 < wr.heap.size := hg.lt
    by_cases h2 : j < m
    · have hs1 := splitS_pos m
      have hs2 := splitS_lt (n := m) (by omega)
      have hcl : m ≤ d := by have := Rd.le hkr.1; omega
      have hmb : (m : Int) ≤ 128 := by omega
      have hgt : (j : Int) < (m : Int) := by omega
      have HSP : Hid (∀ W, Calls Tryz.prog 113 #[.int .i64 (m : Int)] W fun e w' => e = .returned (.int .i64 ((splitS m : Nat) : Int)) ∧ W = w') := fun W => split_any m W (by omega) (by omega)
      have hsl1 := fun W => slice_keys_to W B m d (splitS m) (by omega)
      have hsl2 := fun W => slice_keys_from W B m d (splitS m) (by omega)
      by_cases hk : j ≤ splitS m
      · have hjk : (j : Int) ≤ ((splitS m : Nat) : Int) := by omega
        have HPE : Hid (P0 = partS (ls.take (splitS m)) j wh ++ (os ++ [rootS (ls.drop (splitS m))]).reverse) := by unfold Hid; have := partS_low (l := ls) (m := j) wh (by omega) (by omega) (by rw [hls]; exact hk); rw [hls] at this; rw [hP, this]; simp
        have HRL : Hid ((rootS (ls.drop (splitS m))).length = 16) := rootS_length _
        have HLS : Hid ((ls.take (splitS m)).length = splitS m) := by unfold Hid; simp only [List.length_take, List.length_drop]; omega
        have HKR : Hid (KR w B d (ls.take (splitS m))) := hkr.take _ (by omega)
        have HRO : Hid (∀ W, Below wr.heap.size wr W → Calls Tryz.prog 79 #[.slice (dropK B (splitS m) d) (m - splitS m) (d - splitS m)] W fun e w' => e = .returned (.agg (cellsB (rootS (ls.drop (splitS m)))).toArray) ∧ Below W.heap.size W w') := fun W hW => root_any _ _ _ W (by rw [List.length_drop]; omega) (by omega) ((hkr.below (bel_on hb hW)).drop _ (by omega))
        generalize rootS (ls.drop (splitS m)) = r at HPE HRL HRO
        generalize ls.take (splitS m) = ls' at HPE HLS HKR
        generalize splitS m = k at *
        clear hP hkr hls hk ls hg hr hok
        go_wp2_with (go_at_call 113; refine (HSP.out _).mono ?_; rintro e w1 ⟨rfl, rfl⟩)
        refine wp_region_noPanic ?_
        refine wp_region_held_drew (S := fun _ => True) (by kernel_rfl) trivial (fun hS => ?_)
        refine hd_take 0 (_) rfl rfl (by kernel_rfl) (by kernel_rfl) (by kernel_rfl) (fun _ _ _ h => h) (fun w _ => by go_simp <;> rfl) hS ?_
        refine hd_take 2 (_) rfl rfl (by kernel_rfl) (by kernel_rfl) (by kernel_rfl) (fun _ _ _ h => h) (fun w _ => by go_simp <;> rfl) hS ?_
        refine hd_take 3 (_) rfl rfl (by kernel_rfl) (by kernel_rfl) (by kernel_rfl) (fun _ _ _ h => h) (fun w _ => by go_simp <;> rfl) hS ?_
        refine hd_take 8 (_) rfl rfl (by kernel_rfl) (by kernel_rfl) (by kernel_rfl) (fun _ _ _ h => h) (fun w _ => by go_simp <;> rfl) hS ?_
        refine hd_take 9 (_) rfl rfl (by kernel_rfl) (by kernel_rfl) (by kernel_rfl) (fun _ _ _ h => h) (fun w _ => by go_simp <;> rfl) hS ?_
        simp only [List.getElem_toArray, List.getElem_cons_succ, List.getElem_cons_zero, Act.put, List.setIfInBounds_toArray, List.set_cons_zero, List.set_cons_succ]
        refine hd_take 4 (_) rfl rfl (by kernel_rfl) (by kernel_rfl) (by kernel_rfl) (fun _ _ _ h => h) (fun w _ => by go_simp <;> rfl) hS ?_
        refine hd_take 10 (_) rfl rfl (by kernel_rfl) (by kernel_rfl) (by kernel_rfl) (fun _ _ _ h => h) (fun w _ => by go_simp <;> rfl) hS ?_
        simp only [List.getElem_toArray, List.getElem_cons_succ, List.getElem_cons_zero, Act.put, List.setIfInBounds_toArray, List.set_cons_zero, List.set_cons_succ]
        have LC : wr.drew.cell? ⟨w.heap.size + 1, 2, none⟩ = some (.slice O q co) := HG.out.cell 2
        refine' (fun (HIN : ∀ w4, Below wr.drew.heap.size wr.drew w4 → (_ : World → Prop) w4) => _) _
        rotate_left
        · refine hd_two 1 5 (by kernel_rfl) (op_run (.slice O q co) wr.drew rfl rfl (by simp [go_sem, LC]) ⟨trivial, ?_⟩) (op_call 79 #[.slice (dropK B k d) (m - k) (d - k)] rfl rfl (by go_simp) ((HRO.out _ (Below.refl _ _).drew).mono ?_))
          · simp only [List.getElem_toArray, List.getElem_cons_succ, List.getElem_cons_zero, Act.put, List.setIfInBounds_toArray, List.set_cons_zero, List.set_cons_succ]
            refine hd_calls 5 79 #[.slice (dropK B k d) (m - k) (d - k)] rfl rfl (by kernel_rfl) (by go_simp) ((HRO.out _ (Below.refl _ _).drew).mono ?_)
            rintro e w4 ⟨rfl, hb4⟩
            refine ⟨_, rfl, trivial, ?_⟩
            simp only [List.getElem_toArray, List.getElem_cons_succ, List.getElem_cons_zero, Act.put, List.setIfInBounds_toArray, List.set_cons_zero, List.set_cons_succ]
            refine hd_sole 6 (by kernel_rfl) (op_buildKey r _ HRL.out rfl rfl rfl rfl ⟨trivial, ?_⟩)
            simp only [List.getElem_toArray, List.getElem_cons_succ, List.getElem_cons_zero, Act.put, List.setIfInBounds_toArray, List.set_cons_zero, List.set_cons_succ]
            exact HIN w4 hb4
          · rintro e w4 ⟨rfl, hb4⟩
            refine ⟨_, rfl, trivial, ?_⟩
            simp only [List.getElem_toArray, List.getElem_cons_succ, List.getElem_cons_zero, Act.put, List.setIfInBounds_toArray, List.set_cons_zero, List.set_cons_succ]
            have LC4 : w4.cell? ⟨w.heap.size + 1, 2, none⟩ = some (.slice O q co) := (hb4.cell (p := ⟨w.heap.size + 1, 2, none⟩) hgl).trans LC
            have LC5 : (w4.alloc (.cells (cellsB r).toArray 24)).cell? ⟨w.heap.size + 1, 2, none⟩ = some (.slice O q co) := ((alloc_bel w4 _).cell (p := ⟨w.heap.size + 1, 2, none⟩) (Nat.lt_of_lt_of_le hgl hb4.size)).trans LC4
            refine hd_two 1 6 (by kernel_rfl) (op_run (.slice O q co) w4 rfl rfl (by simp [go_sem, LC4]) ⟨trivial, ?_⟩) (op_buildKey r _ HRL.out rfl rfl rfl rfl ⟨trivial, ?_⟩)
            · simp only [List.getElem_toArray, List.getElem_cons_succ, List.getElem_cons_zero, Act.put, List.setIfInBounds_toArray, List.set_cons_zero, List.set_cons_succ]
              refine hd_sole 6 (by kernel_rfl) (op_buildKey r _ HRL.out rfl rfl rfl rfl ⟨trivial, ?_⟩)
              simp only [List.getElem_toArray, List.getElem_cons_succ, List.getElem_cons_zero, Act.put, List.setIfInBounds_toArray, List.set_cons_zero, List.set_cons_succ]
              exact HIN w4 hb4
            · simp only [List.getElem_toArray, List.getElem_cons_succ, List.getElem_cons_zero, Act.put, List.setIfInBounds_toArray, List.set_cons_zero, List.set_cons_succ]
              refine hd_sole 1 (by kernel_rfl) (op_run (.slice O q co) _ rfl rfl (by simp [go_sem, LC5] <;> rfl) ⟨trivial, ?_⟩)
              simp only [List.getElem_toArray, List.getElem_cons_succ, List.getElem_cons_zero, Act.put, List.setIfInBounds_toArray, List.set_cons_zero, List.set_cons_succ]
              exact HIN w4 hb4
        · intro w4 hb4
          have b4 : Below wr.heap.size wr w4 := bel_on (Below.refl _ _).drew hb4
          have ho4 := HOK.out.below b4
          have hg4 := HG.out.below' b4
          have hr4 := HR.out.below' b4
          have ho5 := ho4.below (alloc_bel w4 (.cells (cellsB r).toArray 24))
          have hg5 := hg4.alloc (.cells (cellsB r).toArray 24)
          have hr5 := hr4.alloc (.cells (cellsB r).toArray 24)
          have b5 := b4.alloc b4.size (.cells (cellsB r).toArray 24)
          have hsrc := src_key w4 HRL.out
          have hz5 : w.heap.size + 2 ≤ (w4.alloc (.cells (cellsB r).toArray 24)).heap.size := by have := b5.size; omega
          refine hd_appendK 7 (.tmp 37) (.tmp 42) rfl rfl rfl (by kernel_rfl) (w.heap.size + 2) O q co os HOS.out rfl ho5 _ 1 1 [r] rfl rfl hsrc (by omega) hz5 ?_
          intro A6 c6 w6 ho6 hb6
          have hg6 := hg5.below hb6 (by omega)
          have hr6 := hr5.below hb6 (by omega)
          refine ⟨trivial, ?_⟩
          simp only [List.getElem_toArray, List.getElem_cons_succ, List.getElem_cons_zero, Act.put, List.setIfInBounds_toArray, List.set_cons_zero, List.set_cons_succ]
          refine hd_take 11 (.pointer (some ⟨w.heap.size + 1, 2, none⟩)) rfl rfl (by kernel_rfl) (by kernel_rfl) (by kernel_rfl) (fun _ _ _ h => h) (fun w _ => by go_simp) trivial ?_
          simp only [List.getElem_toArray, List.getElem_cons_succ, List.getElem_cons_zero, Act.put, List.setIfInBounds_toArray, List.set_cons_zero, List.set_cons_succ]
          have hc6 : (w6.cell? ⟨w.heap.size + 1, 2, none⟩) = some (.slice O q co) := hg6.cell 2
          have hf6 : w6.frozen? ⟨w.heap.size + 1, 2, none⟩ = false := hg6.frozen 2
          refine hd_sole 12 (by kernel_rfl) (op_skip (w6.setCell ⟨w.heap.size + 1, 2, none⟩ (.slice A6 (q + 1) c6)) rfl rfl (by simp [go_sem, hc6, hf6]) ⟨trivial, ?_⟩)
          simp only [List.getElem_toArray, List.getElem_cons_succ, List.getElem_cons_zero, Act.put, List.setIfInBounds_toArray, List.set_cons_zero, List.set_cons_succ]
          have ho7 := ho6.set_low ⟨w.heap.size + 1, 2, none⟩ (.slice A6 (q + 1) c6) (by simp)
          have hg7 := blk3_set hg6 (.slice A6 (q + 1) c6)
          have hr7 := hr6.far (p := ⟨w.heap.size + 1, 2, none⟩) (by simp) (.slice A6 (q + 1) c6)
          have HO7 := Lib.hid ho7
          have HG7 := Lib.hid hg7
          have HR7 := Lib.hid hr7
          have b7 : Below w.heap.size w (w6.setCell ⟨w.heap.size + 1, 2, none⟩ (.slice A6 (q + 1) c6)) := ((HB.out.trans (Below.mono b5 HB.out.size)).trans (hb6.mono (by omega))).setCell (by simp) _
          generalize w6.setCell ⟨w.heap.size + 1, 2, none⟩ (.slice A6 (q + 1) c6) = w7 at *
          clear ho7 hg7 hr7 ho6 hg6 hr6 ho5 hg5 hr5 ho4 hg4 hr4 hsrc hc6 hf6
          refine hd_take 13 (_) rfl rfl (by kernel_rfl) (by kernel_rfl) (by kernel_rfl) (fun _ _ _ h => h) (fun w _ => by go_simp <;> rfl) trivial ?_
          simp only [List.getElem_toArray, List.getElem_cons_succ, List.getElem_cons_zero, Act.put, List.setIfInBounds_toArray, List.set_cons_zero, List.set_cons_succ]
          refine wpAnyH_done (by kernel_rfl) (NoPanic.normal ?_) _
          go_wp2_with fail
          go_roundw
          case rel => exact ⟨_, k, j, B, d, os ++ [r], q + 1, A6, c6, wh, rfl, rfl, rfl, HLS.out, by rw [List.length_append, HOS.out]; rfl, hj1, by omega, by omega, HKR.out, HO7.out, HKK.out.snoc HRL.out, HPE.out, HG7.out, HR7.out, b7⟩
          case measure => simp only [lenV]; omega
      · have hjk : ¬ (j : Int) ≤ ((splitS m : Nat) : Int) := by omega
        have hjk2 : ((splitS m : Nat) : Int) < (j : Int) := by omega
        have hwj : IntKind.i64.wrap ((j : Int) - ((splitS m : Nat) : Int)) = (j : Int) - ((splitS m : Nat) : Int) := by rw [IntKind.wrap_i64]; omega
        have HPE : Hid (P0 = partS (ls.drop (splitS m)) (j - splitS m) false ++ (os ++ [rootS (ls.take (splitS m))]).reverse) := by unfold Hid; have := partS_high (l := ls) (m := j) wh (by omega) (by omega) (by rw [hls]; exact hk); rw [hls] at this; rw [hP, this]; simp
        have HRL : Hid ((rootS (ls.take (splitS m))).length = 16) := rootS_length _
        have HLS : Hid ((ls.drop (splitS m)).length = m - splitS m) := by unfold Hid; simp only [List.length_take, List.length_drop]; omega
        have HKR : Hid (KR w (dropK B (splitS m) d) (d - splitS m) (ls.drop (splitS m))) := hkr.drop _ (by omega)
        have HRO : Hid (∀ W, Below wr.heap.size wr W → Calls Tryz.prog 79 #[.slice B (splitS m) d] W fun e w' => e = .returned (.agg (cellsB (rootS (ls.take (splitS m)))).toArray) ∧ Below W.heap.size W w') := fun W hW => root_any _ _ _ W (by rw [List.length_take]; omega) (by omega) ((hkr.below (bel_on hb hW)).take _ (by omega))
        generalize rootS (ls.take (splitS m)) = r at HPE HRL HRO
        generalize ls.drop (splitS m) = ls' at HPE HLS HKR
        generalize splitS m = k at *
        clear hP hkr hls hk ls hg hr hok
        go_wp2_with (go_at_call 113; refine (HSP.out _).mono ?_; rintro e w1 ⟨rfl, rfl⟩)
        refine wp_region_noPanic ?_
        refine wp_region_held_drew (S := fun _ => True) (by kernel_rfl) trivial (fun hS => ?_)
        refine hd_take 0 (_) rfl rfl (by kernel_rfl) (by kernel_rfl) (by kernel_rfl) (fun _ _ _ h => h) (fun w _ => by go_simp <;> rfl) hS ?_
        refine hd_take 2 (_) rfl rfl (by kernel_rfl) (by kernel_rfl) (by kernel_rfl) (fun _ _ _ h => h) (fun w _ => by go_simp <;> rfl) hS ?_
        refine hd_take 3 (_) rfl rfl (by kernel_rfl) (by kernel_rfl) (by kernel_rfl) (fun _ _ _ h => h) (fun w _ => by go_simp <;> rfl) hS ?_
        refine hd_take 8 (_) rfl rfl (by kernel_rfl) (by kernel_rfl) (by kernel_rfl) (fun _ _ _ h => h) (fun w _ => by go_simp <;> rfl) hS ?_
        refine hd_take 9 (_) rfl rfl (by kernel_rfl) (by kernel_rfl) (by kernel_rfl) (fun _ _ _ h => h) (fun w _ => by go_simp <;> rfl) hS ?_
        refine hd_take 11 (_) rfl rfl (by kernel_rfl) (by kernel_rfl) (by kernel_rfl) (fun _ _ _ h => h) (fun w _ => by go_simp <;> rfl) hS ?_
        refine hd_take 12 (_) rfl rfl (by kernel_rfl) (by kernel_rfl) (by kernel_rfl) (fun _ _ _ h => h) (fun w _ => by go_simp <;> rfl) hS ?_
        simp only [List.getElem_toArray, List.getElem_cons_succ, List.getElem_cons_zero, Act.put, List.setIfInBounds_toArray, List.set_cons_zero, List.set_cons_succ]
        refine hd_take 4 (_) rfl rfl (by kernel_rfl) (by kernel_rfl) (by kernel_rfl) (fun _ _ _ h => h) (fun w _ => by go_simp <;> rfl) hS ?_
        refine hd_take 10 (_) rfl rfl (by kernel_rfl) (by kernel_rfl) (by kernel_rfl) (fun _ _ _ h => h) (fun w _ => by go_simp <;> rfl) hS ?_
        refine hd_take 13 (_) rfl rfl (by kernel_rfl) (by kernel_rfl) (by kernel_rfl) (fun _ _ _ h => h) (fun w _ => by go_simp <;> rfl) hS ?_
        simp only [List.getElem_toArray, List.getElem_cons_succ, List.getElem_cons_zero, Act.put, List.setIfInBounds_toArray, List.set_cons_zero, List.set_cons_succ]
        have LC : wr.drew.cell? ⟨w.heap.size + 1, 2, none⟩ = some (.slice O q co) := HG.out.cell 2
        refine' (fun (HIN : ∀ w4, Below wr.drew.heap.size wr.drew w4 → (_ : World → Prop) w4) => _) _
        rotate_left
        · refine hd_two 1 5 (by kernel_rfl) (op_run (.slice O q co) wr.drew rfl rfl (by simp [go_sem, LC]) ⟨trivial, ?_⟩) (op_call 79 #[.slice B k d] rfl rfl (by go_simp) ((HRO.out _ (Below.refl _ _).drew).mono ?_))
          · simp only [List.getElem_toArray, List.getElem_cons_succ, List.getElem_cons_zero, Act.put, List.setIfInBounds_toArray, List.set_cons_zero, List.set_cons_succ]
            refine hd_calls 5 79 #[.slice B k d] rfl rfl (by kernel_rfl) (by go_simp) ((HRO.out _ (Below.refl _ _).drew).mono ?_)
            rintro e w4 ⟨rfl, hb4⟩
            refine ⟨_, rfl, trivial, ?_⟩
            simp only [List.getElem_toArray, List.getElem_cons_succ, List.getElem_cons_zero, Act.put, List.setIfInBounds_toArray, List.set_cons_zero, List.set_cons_succ]
            refine hd_sole 6 (by kernel_rfl) (op_buildKey r _ HRL.out rfl rfl rfl rfl ⟨trivial, ?_⟩)
            simp only [List.getElem_toArray, List.getElem_cons_succ, List.getElem_cons_zero, Act.put, List.setIfInBounds_toArray, List.set_cons_zero, List.set_cons_succ]
            exact HIN w4 hb4
          · rintro e w4 ⟨rfl, hb4⟩
            refine ⟨_, rfl, trivial, ?_⟩
            simp only [List.getElem_toArray, List.getElem_cons_succ, List.getElem_cons_zero, Act.put, List.setIfInBounds_toArray, List.set_cons_zero, List.set_cons_succ]
            have LC4 : w4.cell? ⟨w.heap.size + 1, 2, none⟩ = some (.slice O q co) := (hb4.cell (p := ⟨w.heap.size + 1, 2, none⟩) hgl).trans LC
            have LC5 : (w4.alloc (.cells (cellsB r).toArray 24)).cell? ⟨w.heap.size + 1, 2, none⟩ = some (.slice O q co) := ((alloc_bel w4 _).cell (p := ⟨w.heap.size + 1, 2, none⟩) (Nat.lt_of_lt_of_le hgl hb4.size)).trans LC4
            refine hd_two 1 6 (by kernel_rfl) (op_run (.slice O q co) w4 rfl rfl (by simp [go_sem, LC4]) ⟨trivial, ?_⟩) (op_buildKey r _ HRL.out rfl rfl rfl rfl ⟨trivial, ?_⟩)
            · simp only [List.getElem_toArray, List.getElem_cons_succ, List.getElem_cons_zero, Act.put, List.setIfInBounds_toArray, List.set_cons_zero, List.set_cons_succ]
              refine hd_sole 6 (by kernel_rfl) (op_buildKey r _ HRL.out rfl rfl rfl rfl ⟨trivial, ?_⟩)
              simp only [List.getElem_toArray, List.getElem_cons_succ, List.getElem_cons_zero, Act.put, List.setIfInBounds_toArray, List.set_cons_zero, List.set_cons_succ]
              exact HIN w4 hb4
            · simp only [List.getElem_toArray, List.getElem_cons_succ, List.getElem_cons_zero, Act.put, List.setIfInBounds_toArray, List.set_cons_zero, List.set_cons_succ]
              refine hd_sole 1 (by kernel_rfl) (op_run (.slice O q co) _ rfl rfl (by simp [go_sem, LC5] <;> rfl) ⟨trivial, ?_⟩)
              simp only [List.getElem_toArray, List.getElem_cons_succ, List.getElem_cons_zero, Act.put, List.setIfInBounds_toArray, List.set_cons_zero, List.set_cons_succ]
              exact HIN w4 hb4
        · intro w4 hb4
          have b4 : Below wr.heap.size wr w4 := bel_on (Below.refl _ _).drew hb4
          have ho4 := HOK.out.below b4
          have hg4 := HG.out.below' b4
          have hr4 := HR.out.below' b4
          have ho5 := ho4.below (alloc_bel w4 (.cells (cellsB r).toArray 24))
          have hg5 := hg4.alloc (.cells (cellsB r).toArray 24)
          have hr5 := hr4.alloc (.cells (cellsB r).toArray 24)
          have b5 := b4.alloc b4.size (.cells (cellsB r).toArray 24)
          have hsrc := src_key w4 HRL.out
          have hz5 : w.heap.size + 2 ≤ (w4.alloc (.cells (cellsB r).toArray 24)).heap.size := by have := b5.size; omega
          refine hd_appendK 7 (.tmp 49) (.tmp 54) rfl rfl rfl (by kernel_rfl) (w.heap.size + 2) O q co os HOS.out rfl ho5 _ 1 1 [r] rfl rfl hsrc (by omega) hz5 ?_
          intro A6 c6 w6 ho6 hb6
          have hg6 := hg5.below hb6 (by omega)
          have hr6 := hr5.below hb6 (by omega)
          refine ⟨trivial, ?_⟩
          simp only [List.getElem_toArray, List.getElem_cons_succ, List.getElem_cons_zero, Act.put, List.setIfInBounds_toArray, List.set_cons_zero, List.set_cons_succ]
          refine hd_take 14 (.pointer (some ⟨w.heap.size + 1, 2, none⟩)) rfl rfl (by kernel_rfl) (by kernel_rfl) (by kernel_rfl) (fun _ _ _ h => h) (fun w _ => by go_simp) trivial ?_
          simp only [List.getElem_toArray, List.getElem_cons_succ, List.getElem_cons_zero, Act.put, List.setIfInBounds_toArray, List.set_cons_zero, List.set_cons_succ]
          have hc6 : (w6.cell? ⟨w.heap.size + 1, 2, none⟩) = some (.slice O q co) := hg6.cell 2
          have hf6 : w6.frozen? ⟨w.heap.size + 1, 2, none⟩ = false := hg6.frozen 2
          refine hd_sole 15 (by kernel_rfl) (op_skip (w6.setCell ⟨w.heap.size + 1, 2, none⟩ (.slice A6 (q + 1) c6)) rfl rfl (by simp [go_sem, hc6, hf6]) ⟨trivial, ?_⟩)
          simp only [List.getElem_toArray, List.getElem_cons_succ, List.getElem_cons_zero, Act.put, List.setIfInBounds_toArray, List.set_cons_zero, List.set_cons_succ]
          have ho7 := ho6.set_low ⟨w.heap.size + 1, 2, none⟩ (.slice A6 (q + 1) c6) (by simp)
          have hg7 := blk3_set hg6 (.slice A6 (q + 1) c6)
          have hr7 := hr6.far (p := ⟨w.heap.size + 1, 2, none⟩) (by simp) (.slice A6 (q + 1) c6)
          have HO7 := Lib.hid ho7
          have HG7 := Lib.hid hg7
          have HR7 := Lib.hid hr7
          have b7 : Below w.heap.size w (w6.setCell ⟨w.heap.size + 1, 2, none⟩ (.slice A6 (q + 1) c6)) := ((HB.out.trans (Below.mono b5 HB.out.size)).trans (hb6.mono (by omega))).setCell (by simp) _
          generalize w6.setCell ⟨w.heap.size + 1, 2, none⟩ (.slice A6 (q + 1) c6) = w7 at *
          clear ho7 hg7 hr7 ho6 hg6 hr6 ho5 hg5 hr5 ho4 hg4 hr4 hsrc hc6 hf6
          refine hd_take 16 (_) rfl rfl (by kernel_rfl) (by kernel_rfl) (by kernel_rfl) (fun _ _ _ h => h) (fun w _ => by go_simp <;> rfl) trivial ?_
          refine hd_take 17 (_) rfl rfl (by kernel_rfl) (by kernel_rfl) (by kernel_rfl) (fun _ _ _ h => h) (fun w _ => by go_simp <;> rfl) trivial ?_
          refine hd_take 18 (_) rfl rfl (by kernel_rfl) (by kernel_rfl) (by kernel_rfl) (fun _ _ _ h => h) (fun w _ => by go_simp <;> rfl) trivial ?_
          simp only [List.getElem_toArray, List.getElem_cons_succ, List.getElem_cons_zero, Act.put, List.setIfInBounds_toArray, List.set_cons_zero, List.set_cons_succ]
          refine wpAnyH_done (by kernel_rfl) (NoPanic.normal ?_) _
          go_wp2_with fail
          go_roundw
          case rel => exact ⟨_, m - k, j - k, _, _, os ++ [r], q + 1, A6, c6, false, rfl, by rw [show ((j - k : Nat) : Int) = (j : Int) - (k : Int) from by omega], rfl, HLS.out, by rw [List.length_append, HOS.out]; rfl, by omega, by omega, by omega, HKR.out, HO7.out, HKK.out.snoc HRL.out, HPE.out, HG7.out, HR7.out, b7⟩
          case measure => simp only [lenV]; omega
    · obtain rfl : j = m := by omega
      have hmb : (j : Int) ≤ 128 := by omega
      have hge : ¬ (j : Int) < (j : Int) := by omega
      cases wh with
      | true =>
        have hPA : P0 = os.reverse := by rw [hP, ← hls, partS_end]; rfl
        have hoA := hok
        have hkA := hk16
        have hqA := hos
        have hgA := hg
        have hrA := hr
        have hbA := hb
        clear hP hkr hls hos hok hk16 hg hr hb HB HOK HOS HKK HG HR ls
        have HOA := Lib.hid hoA
        have HKA := Lib.hid hkA
        have HPA := Lib.hid hPA
        have HQA := Lib.hid hqA
        have HGA := Lib.hid hgA
        have HRA := Lib.hid hrA
        have HBA := Lib.hid hbA
        have LC : wr.cell? ⟨w.heap.size + 1, 2, none⟩ = some (.slice O q co) := hgA.cell 2
        have HRV : Hid (∀ W, Below wr.heap.size wr W → Calls Tryz.prog 114 #[.slice O q co] W fun e w' => e = .returned (.tuple #[]) ∧ OK16 (w.heap.size + 2) w' O co P0 ∧ Below (w.heap.size + 2) W w') := fun W hW => by rw [hPA]; exact reverse_any os O co W hqA (hoA.below hW) hkA (by omega)
        have hgl2 : w.heap.size + 1 < wr.heap.size := hgA.lt
        have HPL : Hid (P0.length = q) := by unfold Hid; rw [hPA, List.length_reverse, hqA]
        clear hoA hkA hPA hqA hgA hrA hbA
        go_wp2_with (go_at_call 114; refine (HRV.out _ (Below.refl _ _)).mono ?_; rintro e w2 ⟨rfl, ho2, hb2⟩; have hg2 := HGA.out.below hb2 (by omega); have hr2 := HRA.out.below hb2 (by omega); have c0 : w2.cell? ⟨w.heap.size + 1, 0, none⟩ = some (.int .i64 (i : Int)) := hg2.cell 0; have c1 : w2.cell? ⟨w.heap.size + 1, 1, none⟩ = some (.int .i64 (n : Int)) := hg2.cell 1; have c2 : w2.cell? ⟨w.heap.size + 1, 2, none⟩ = some (.slice O q co) := hg2.cell 2; have r0 : w2.cell? ⟨w.heap.size, 0, none⟩ = some (.int .i64 0) := hr2.cell 0; have r1 : w2.cell? ⟨w.heap.size, 1, none⟩ = some (.int .i64 0) := hr2.cell 1; have r2 : w2.cell? ⟨w.heap.size, 2, none⟩ = some (.slice none 0 0) := hr2.cell 2; have f0 := hr2.frozen 0; have f1 := hr2.frozen 1; have f2 := hr2.frozen 2; have HO2 := Lib.hid ho2; have HB2 := Lib.hid (HBA.out.trans (hb2.mono (by omega))); clear ho2 hb2 hg2 hr2)
        refine bodyPost_ret (v := .tuple #[.agg #[.int .i64 (i : Int), .int .i64 (n : Int), .slice O q co], .int .i64 0]) (by simp [results, Tryz.f52, go_sem, c0, c1, c2, r0, r1, r2]) rfl ⟨⟨O, co, by show _ = Ending.returned (.tuple #[.agg #[.int .i64 (i : Int), .int .i64 (n : Int), .slice O P0.length co], .int .i64 0]); rw [HPL.out], (((HO2.out.set_low _ _ (by simp)).set_low _ _ (by simp)).set_low _ _ (by simp)).le_ (by omega)⟩, ((HB2.out.setCell (by simp) _).setCell (by simp) _).setCell (by simp) _⟩
      | false =>
        have HPE : Hid (P0 = (os ++ [rootS ls]).reverse) := by unfold Hid; rw [hP, ← hls, partS_end]; simp
        have HRL : Hid ((rootS ls).length = 16) := rootS_length _
        have HRO : Hid (∀ W, Below wr.heap.size wr W → Calls Tryz.prog 79 #[.slice B j d] W fun e w' => e = .returned (.agg (cellsB (rootS ls)).toArray) ∧ Below W.heap.size W w') := fun W hW => root_any _ _ _ W hls (by omega) (hkr.below (bel_on hb hW))
        generalize rootS ls = r at HPE HRL HRO
        clear hP hkr hls ls hg hr hok
        go_wp2_with fail
        refine wp_region_noPanic ?_
        refine wp_region_held_drew (S := fun _ => True) (by kernel_rfl) trivial (fun hS => ?_)
        refine hd_take 0 (_) rfl rfl (by kernel_rfl) (by kernel_rfl) (by kernel_rfl) (fun _ _ _ h => h) (fun w _ => by go_simp <;> rfl) hS ?_
        refine hd_take 2 (_) rfl rfl (by kernel_rfl) (by kernel_rfl) (by kernel_rfl) (fun _ _ _ h => h) (fun w _ => by go_simp <;> rfl) hS ?_
        simp only [List.getElem_toArray, List.getElem_cons_succ, List.getElem_cons_zero, Act.put, List.setIfInBounds_toArray, List.set_cons_zero, List.set_cons_succ]
        have LC : wr.drew.cell? ⟨w.heap.size + 1, 2, none⟩ = some (.slice O q co) := HG.out.cell 2
        refine' (fun (HIN : ∀ w4, Below wr.drew.heap.size wr.drew w4 → (_ : World → Prop) w4) => _) _
        rotate_left
        · refine hd_two 1 3 (by kernel_rfl) (op_run (.slice O q co) wr.drew rfl rfl (by simp [go_sem, LC]) ⟨trivial, ?_⟩) (op_call 79 #[.slice B j d] rfl rfl (by go_simp) ((HRO.out _ (Below.refl _ _).drew).mono ?_))
          · simp only [List.getElem_toArray, List.getElem_cons_succ, List.getElem_cons_zero, Act.put, List.setIfInBounds_toArray, List.set_cons_zero, List.set_cons_succ]
            refine hd_calls 3 79 #[.slice B j d] rfl rfl (by kernel_rfl) (by go_simp) ((HRO.out _ (Below.refl _ _).drew).mono ?_)
            rintro e w4 ⟨rfl, hb4⟩
            refine ⟨_, rfl, trivial, ?_⟩
            simp only [List.getElem_toArray, List.getElem_cons_succ, List.getElem_cons_zero, Act.put, List.setIfInBounds_toArray, List.set_cons_zero, List.set_cons_succ]
            refine hd_sole 4 (by kernel_rfl) (op_buildKey r _ HRL.out rfl rfl rfl rfl ⟨trivial, ?_⟩)
            simp only [List.getElem_toArray, List.getElem_cons_succ, List.getElem_cons_zero, Act.put, List.setIfInBounds_toArray, List.set_cons_zero, List.set_cons_succ]
            exact HIN w4 hb4
          · rintro e w4 ⟨rfl, hb4⟩
            refine ⟨_, rfl, trivial, ?_⟩
            simp only [List.getElem_toArray, List.getElem_cons_succ, List.getElem_cons_zero, Act.put, List.setIfInBounds_toArray, List.set_cons_zero, List.set_cons_succ]
            have LC4 : w4.cell? ⟨w.heap.size + 1, 2, none⟩ = some (.slice O q co) := (hb4.cell (p := ⟨w.heap.size + 1, 2, none⟩) hgl).trans LC
            have LC5 : (w4.alloc (.cells (cellsB r).toArray 24)).cell? ⟨w.heap.size + 1, 2, none⟩ = some (.slice O q co) := ((alloc_bel w4 _).cell (p := ⟨w.heap.size + 1, 2, none⟩) (Nat.lt_of_lt_of_le hgl hb4.size)).trans LC4
            refine hd_two 1 4 (by kernel_rfl) (op_run (.slice O q co) w4 rfl rfl (by simp [go_sem, LC4]) ⟨trivial, ?_⟩) (op_buildKey r _ HRL.out rfl rfl rfl rfl ⟨trivial, ?_⟩)
            · simp only [List.getElem_toArray, List.getElem_cons_succ, List.getElem_cons_zero, Act.put, List.setIfInBounds_toArray, List.set_cons_zero, List.set_cons_succ]
              refine hd_sole 4 (by kernel_rfl) (op_buildKey r _ HRL.out rfl rfl rfl rfl ⟨trivial, ?_⟩)
              simp only [List.getElem_toArray, List.getElem_cons_succ, List.getElem_cons_zero, Act.put, List.setIfInBounds_toArray, List.set_cons_zero, List.set_cons_succ]
              exact HIN w4 hb4
            · simp only [List.getElem_toArray, List.getElem_cons_succ, List.getElem_cons_zero, Act.put, List.setIfInBounds_toArray, List.set_cons_zero, List.set_cons_succ]
              refine hd_sole 1 (by kernel_rfl) (op_run (.slice O q co) _ rfl rfl (by simp [go_sem, LC5] <;> rfl) ⟨trivial, ?_⟩)
              simp only [List.getElem_toArray, List.getElem_cons_succ, List.getElem_cons_zero, Act.put, List.setIfInBounds_toArray, List.set_cons_zero, List.set_cons_succ]
              exact HIN w4 hb4
        · intro w4 hb4
          have b4 : Below wr.heap.size wr w4 := bel_on (Below.refl _ _).drew hb4
          have ho4 := HOK.out.below b4
          have hg4 := HG.out.below' b4
          have hr4 := HR.out.below' b4
          have ho5 := ho4.below (alloc_bel w4 (.cells (cellsB r).toArray 24))
          have hg5 := hg4.alloc (.cells (cellsB r).toArray 24)
          have hr5 := hr4.alloc (.cells (cellsB r).toArray 24)
          have b5 := b4.alloc b4.size (.cells (cellsB r).toArray 24)
          have hsrc := src_key w4 HRL.out
          have hz5 : w.heap.size + 2 ≤ (w4.alloc (.cells (cellsB r).toArray 24)).heap.size := by have := b5.size; omega
          refine hd_appendK 5 (.tmp 66) (.tmp 69) rfl rfl rfl (by kernel_rfl) (w.heap.size + 2) O q co os HOS.out rfl ho5 _ 1 1 [r] rfl rfl hsrc (by omega) hz5 ?_
          intro A6 c6 w6 ho6 hb6
          have hg6 := hg5.below hb6 (by omega)
          have hr6 := hr5.below hb6 (by omega)
          refine ⟨trivial, ?_⟩
          simp only [List.getElem_toArray, List.getElem_cons_succ, List.getElem_cons_zero, Act.put, List.setIfInBounds_toArray, List.set_cons_zero, List.set_cons_succ]
          refine hd_take 6 (.pointer (some ⟨w.heap.size + 1, 2, none⟩)) rfl rfl (by kernel_rfl) (by kernel_rfl) (by kernel_rfl) (fun _ _ _ h => h) (fun w _ => by go_simp) trivial ?_
          simp only [List.getElem_toArray, List.getElem_cons_succ, List.getElem_cons_zero, Act.put, List.setIfInBounds_toArray, List.set_cons_zero, List.set_cons_succ]
          have hc6 : (w6.cell? ⟨w.heap.size + 1, 2, none⟩) = some (.slice O q co) := hg6.cell 2
          have hf6 : w6.frozen? ⟨w.heap.size + 1, 2, none⟩ = false := hg6.frozen 2
          refine hd_sole 7 (by kernel_rfl) (op_skip (w6.setCell ⟨w.heap.size + 1, 2, none⟩ (.slice A6 (q + 1) c6)) rfl rfl (by simp [go_sem, hc6, hf6]) ⟨trivial, ?_⟩)
          simp only [List.getElem_toArray, List.getElem_cons_succ, List.getElem_cons_zero, Act.put, List.setIfInBounds_toArray, List.set_cons_zero, List.set_cons_succ]
          have ho7 := ho6.set_low ⟨w.heap.size + 1, 2, none⟩ (.slice A6 (q + 1) c6) (by simp)
          have hg7 := blk3_set hg6 (.slice A6 (q + 1) c6)
          have hr7 := hr6.far (p := ⟨w.heap.size + 1, 2, none⟩) (by simp) (.slice A6 (q + 1) c6)
          have HO7 := Lib.hid ho7
          have HG7 := Lib.hid hg7
          have HR7 := Lib.hid hr7
          have b7 : Below w.heap.size w (w6.setCell ⟨w.heap.size + 1, 2, none⟩ (.slice A6 (q + 1) c6)) := ((HB.out.trans (Below.mono b5 HB.out.size)).trans (hb6.mono (by omega))).setCell (by simp) _
          generalize w6.setCell ⟨w.heap.size + 1, 2, none⟩ (.slice A6 (q + 1) c6) = w7 at *
          clear ho7 hg7 hr7 ho6 hg6 hr6 ho5 hg5 hr5 ho4 hg4 hr4 hsrc hc6 hf6
          refine wpAnyH_done (by kernel_rfl) (NoPanic.normal ?_) _
          have hPA := HPE.out
          have hoA := HO7.out
          have hkA := HKK.out.snoc HRL.out
          have hqA : (os ++ [r]).length = q + 1 := by rw [List.length_append, HOS.out]; rfl
          have hgA := HG7.out
          have hrA := HR7.out
          have hbA := b7
          clear HPE HO7 HKK HOS HG7 HR7 b7 HB HOK HG HR HRO hk16 hos hb
          have HOA := Lib.hid hoA
          have HKA := Lib.hid hkA
          have HPA := Lib.hid hPA
          have HQA := Lib.hid hqA
          have HGA := Lib.hid hgA
          have HRA := Lib.hid hrA
          have HBA := Lib.hid hbA
          have LC : w7.cell? ⟨w.heap.size + 1, 2, none⟩ = some (.slice A6 (q + 1) c6) := hgA.cell 2
          have HRV : Hid (∀ W, Below w7.heap.size w7 W → Calls Tryz.prog 114 #[.slice A6 (q + 1) c6] W fun e w' => e = .returned (.tuple #[]) ∧ OK16 (w.heap.size + 2) w' A6 c6 P0 ∧ Below (w.heap.size + 2) W w') := fun W hW => by rw [hPA]; exact reverse_any (os ++ [r]) A6 c6 W hqA (hoA.below hW) hkA (by omega)
          have hgl2 : w.heap.size + 1 < w7.heap.size := hgA.lt
          have HPL : Hid (P0.length = (q + 1)) := by unfold Hid; rw [hPA, List.length_reverse, hqA]
          clear hoA hkA hPA hqA hgA hrA hbA
          go_wp2_with (go_at_call 114; refine (HRV.out _ (Below.refl _ _)).mono ?_; rintro e w2 ⟨rfl, ho2, hb2⟩; have hg2 := HGA.out.below hb2 (by omega); have hr2 := HRA.out.below hb2 (by omega); have c0 : w2.cell? ⟨w.heap.size + 1, 0, none⟩ = some (.int .i64 (i : Int)) := hg2.cell 0; have c1 : w2.cell? ⟨w.heap.size + 1, 1, none⟩ = some (.int .i64 (n : Int)) := hg2.cell 1; have c2 : w2.cell? ⟨w.heap.size + 1, 2, none⟩ = some (.slice A6 (q + 1) c6) := hg2.cell 2; have r0 : w2.cell? ⟨w.heap.size, 0, none⟩ = some (.int .i64 0) := hr2.cell 0; have r1 : w2.cell? ⟨w.heap.size, 1, none⟩ = some (.int .i64 0) := hr2.cell 1; have r2 : w2.cell? ⟨w.heap.size, 2, none⟩ = some (.slice none 0 0) := hr2.cell 2; have f0 := hr2.frozen 0; have f1 := hr2.frozen 1; have f2 := hr2.frozen 2; have HO2 := Lib.hid ho2; have HB2 := Lib.hid (HBA.out.trans (hb2.mono (by omega))); clear ho2 hb2 hg2 hr2)
          refine bodyPost_ret (v := .tuple #[.agg #[.int .i64 (i : Int), .int .i64 (n : Int), .slice A6 (q + 1) c6], .int .i64 0]) (by simp [results, Tryz.f52, go_sem, c0, c1, c2, r0, r1, r2]) rfl ⟨⟨A6, c6, by show _ = Ending.returned (.tuple #[.agg #[.int .i64 (i : Int), .int .i64 (n : Int), .slice A6 P0.length c6], .int .i64 0]); rw [HPL.out], (((HO2.out.set_low _ _ (by simp)).set_low _ _ (by simp)).set_low _ _ (by simp)).le_ (by omega)⟩, ((HB2.out.setCell (by simp) _).setCell (by simp) _).setCell (by simp) _⟩

set_option maxHeartbeats 1000000 in
theorem ProveGrowth_any (ks : List (List UInt8)) (i : Int) (A : Option Addr) (c : Nat) (w : World) {n : Nat} (hn : ks.length = n) (h : KR w A c ks) :
    Calls Tryz.prog 52 #[.slice A n c, .int .i64 i] w fun e w' => PrEnd w.heap.size (growthS ks i).a (growthS ks i).b (growthS ks i).P (growthS ks i).e e w' ∧ Below w.heap.size w w' := by
  have hnl : (n : Int) ≤ 140737488351232 := by have := h.len; omega
  have b0 := alloc_bel w (.cells #[.int .i64 0, .int .i64 0, .slice none 0 0] 80)
  rcases (by omega : 128 < n ∨ (n ≤ 128 ∧ i < 1) ∨ (n ≤ 128 ∧ 1 ≤ i ∧ (n : Int) < i) ∨ (n ≤ 128 ∧ 1 ≤ i ∧ i ≤ (n : Int))) with hw | ⟨hw, hl⟩ | ⟨hw, hl, hh⟩ | ⟨hw, hl, hh⟩
  · have hw2 : 128 < (n : Int) := by omega
    have HS : Hid (growthS ks i = ⟨0, 0, [], 4⟩) := by unfold Hid growthS; rw [if_pos (by omega)]
    clear hn h hw
    go_enter Tryz.func52, Tryz.ntmps52
    go_wp2
    exact bodyPost_ret (v := .tuple #[.agg #[.int .i64 0, .int .i64 0, .slice none 0 0], .int .i64 4]) (by simp [results, Tryz.f52, go_sem]) rfl ⟨⟨none, 0, by rw [HS.out]; rfl, by rw [HS.out]; exact OK16.nil _ _⟩, b0⟩
  · have hw2 : (n : Int) ≤ 128 := by omega
    have HS : Hid (growthS ks i = ⟨0, 0, [], 2⟩) := by unfold Hid growthS; rw [if_neg (by omega), if_pos (by omega)]
    clear hn h hw
    go_enter Tryz.func52, Tryz.ntmps52
    go_wp2
    exact bodyPost_ret (v := .tuple #[.agg #[.int .i64 0, .int .i64 0, .slice none 0 0], .int .i64 2]) (by simp [results, Tryz.f52, go_sem]) rfl ⟨⟨none, 0, by rw [HS.out]; rfl, by rw [HS.out]; exact OK16.nil _ _⟩, b0⟩
  · have hw2 : (n : Int) ≤ 128 := by omega
    have HS : Hid (growthS ks i = ⟨0, 0, [], 2⟩) := by unfold Hid growthS; rw [if_neg (by omega), if_pos (by omega)]
    clear hn h hw
    go_enter Tryz.func52, Tryz.ntmps52
    go_wp2
    exact bodyPost_ret (v := .tuple #[.agg #[.int .i64 0, .int .i64 0, .slice none 0 0], .int .i64 2]) (by simp [results, Tryz.f52, go_sem]) rfl ⟨⟨none, 0, by rw [HS.out]; rfl, by rw [HS.out]; exact OK16.nil _ _⟩, b0⟩
  · obtain ⟨j, rfl⟩ : ∃ j : Nat, i = (j : Int) := ⟨i.toNat, by omega⟩
    have HS : growthS ks (j : Int) = ⟨j, n, partS ks j true, 0⟩ := by unfold growthS; rw [if_neg (by omega), if_neg (by omega), hn, Int.toNat_natCast]
    rw [HS]
    exact ProveGrowth_in ks j A c w hn (by omega) (by omega) hw h
end Go.Proofs.YtinpiodfpnbllaaGreatDoor

/- Which proofs and growths fit: the reference's test. -/
namespace Go.Proofs.YtinpiodfpnbllaaGreatDoor
open Go.RowKit
set_option linter.unusedVariables false
set_option linter.unusedSimpArgs false

theorem stepsS_le : ∀ (n i : Nat), stepsS n i ≤ n := by
  intro n
  induction n using Nat.strongRecOn with
  | _ n ih =>
    intro i
    rcases Nat.lt_or_ge n 2 with h2 | h2
    · rw [stepsS_one (by omega)]; omega
    have s1 := splitS_lt h2
    have s2 := splitS_pos n
    by_cases hi : i < splitS n
    · rw [stepsS_low h2 hi]; have := ih (splitS n) s1 i; omega
    · rw [stepsS_high h2 hi]; have := ih (n - splitS n) (by omega) (i - splitS n); omega
theorem partsS_le : ∀ (n m : Nat) (wh : Bool), partsS n m wh ≤ n + 1 := by
  intro n
  induction n using Nat.strongRecOn with
  | _ n ih =>
    intro m wh
    rw [partsS]
    split
    · split <;> omega
    · rename_i h
      have s1 := splitS_lt (n := n) (by omega)
      have s2 := splitS_pos n
      dsimp only
      split
      · have := ih (splitS n) s1 m wh; omega
      · have := ih (n - splitS n) (by omega) (m - splitS n) false; omega

end Go.Proofs.YtinpiodfpnbllaaGreatDoor

/- The two roots that a growth gives: the program's. -/
namespace Go.Proofs.YtinpiodfpnbllaaGreatDoor
open Go.RowKit
set_option linter.unusedVariables false
set_option linter.unusedSimpArgs false
attribute [local go_sem] run_storeCells_key run_storeCells_new

/-- Where the walk of a growth stands. -/
structure St (w0 w W0 : World) (g : Nat) (W : World) (ts : List (List UInt8)) : Prop where
  a : Below w0.heap.size w W
  b : Below w0.heap.size w0 W
  t : TX w0.heap.size W g ts
  k : KeepT W0 W
  z : W0.heap.size ≤ W.heap.size
section
variable {w0 w W0 W W' : World} {g : Nat} {ts ts' : List (List UInt8)}
theorem St.on (h : St w0 w W0 g W ts) (hb : Below W.heap.size W W') : St w0 w W0 g W' ts :=
  ⟨h.a.trans (hb.mono h.b.size), h.b.trans (hb.mono h.b.size), h.t.below hb, h.k.trans (.of_below hb), Nat.le_trans h.z hb.size⟩
theorem St.step (h : St w0 w W0 g W ts) (ht : TX w0.heap.size W' g ts') (hk : KeepT W W') (hb : Below w0.heap.size W W') : St w0 w W0 g W' ts' :=
  ⟨h.a.trans hb, h.b.trans hb, ht, h.k.trans hk, Nat.le_trans h.z hb.size⟩
theorem St.row (h : St w0 w W0 g W ts) {g' : Nat} {cs : Array Value} (hb : Blk W g' 24 cs) (hg : W0.heap.size ≤ g') (hz : w0.heap.size ≤ W0.heap.size) (cs' : Array Value) : St w0 w W0 g (W.setRow g' cs') ts :=
  ⟨below_setRow h.a (by omega) cs', below_setRow h.b (by omega) cs', h.t.row hb cs', h.k.rowAbove hg cs', by have := h.z; simpa [World.setRow] using this⟩
/-- .. with two keys that were made. -/
def Twins (w0 w W0 : World) (g : Nat) (ts : List (List UInt8)) (a b : Nat) (W : World) : Prop :=
  St w0 w W0 g W ts ∧ Blk W a 24 (cellsB zeroK).toArray ∧ Blk W b 24 (cellsB zeroK).toArray ∧ a ≠ b ∧ W0.heap.size ≤ a ∧ W0.heap.size ≤ b
end
theorem Blk.row_ne {w : World} {g g' : Nat} {t : TypeId} {cs cs' : Array Value} (h : Blk w g t cs) (hne : g ≠ g') : Blk (w.setRow g' cs') g t cs := (setRow_other w g' g cs' hne).trans h
theorem hd_three {P : Program} {md : Region.Mode} {ops : Array Oper} {Q : Exit → Act → World → Prop} {S : World → Prop} {fuel : Nat} {listed : Array Bool} {a : Act} {w : World} (i j k : Nat) (hr : Region.ready md ops listed = [i, j, k]) (h1 : wpOp P ops Q i (fun a' w' => S w' ∧ wpAnyH P md ops Q S fuel (listed.setIfInBounds i true) a' w') a w)
    (h2 : wpOp P ops Q j (fun a' w' => S w' ∧ wpAnyH P md ops Q S fuel (listed.setIfInBounds j true) a' w') a w) (h3 : wpOp P ops Q k (fun a' w' => S w' ∧ wpAnyH P md ops Q S fuel (listed.setIfInBounds k true) a' w') a w) : wpAnyH P md ops Q S (fuel + 1) listed a w := by
  refine wpAnyH_all hr (by simp) fun x hx => ?_
  rcases List.mem_cons.1 hx with rfl | hx
  · exact h1
  · rcases List.mem_cons.1 hx with rfl | hx
    · exact h2
    · rw [List.mem_singleton] at hx; subst hx; exact h3
theorem results_cell2 {fn : Func} {p u : Tmp} {ty ty' : TypeId} (h : fn.results = #[.cell p ty, .cell u ty']) (tmps : Array Value) (P : Program) (w : World) :
    (results fn tmps).run P w =
      ((asAddr (tmps.getD p undef)).run P w).andThen fun a w1 => ((loadVar ty a).run P w1).andThen fun v w2 => ((asAddr (tmps.getD u undef)).run P w2).andThen fun a' w3 => ((loadVar ty' a').run P w3).andThen fun v' w4 => .ok (.tuple #[v, v']) w4 := by
  simp only [results, h]
  simp [Sem.run_bind, Result.andThen]
theorem growS_le (before : List UInt8) : ∀ (n m : Nat) (path : List (List UInt8)), (growS before n m path).2.2.length ≤ 2 * n := by
  intro n
  induction n using Nat.strongRecOn with
  | _ n ih =>
    intro m path
    rw [growS]
    split
    · simp
    · rename_i h
      have s1 := splitS_lt (n := n) (by omega)
      have s2 := splitS_pos n
      dsimp only
      split
      · have := ih (splitS n) s1 m (initK path)
        simp only [List.length_append, List.length_cons, List.length_nil]; omega
      · have := ih (n - splitS n) (by omega) (m - splitS n) (initK path)
        simp only [List.length_append, List.length_cons, List.length_nil]; omega

def GrowEnd (w0 : World) (g : Nat) (ts : List (List UInt8)) (r : List UInt8 × List UInt8 × List (List UInt8)) (w : World) (e : Ending) (w' : World) : Prop :=
  e = .returned (.tuple #[.agg (cellsB r.1).toArray, .agg (cellsB r.2.1).toArray]) ∧ TX w0.heap.size w' g (ts ++ r.2.2) ∧ KeepT w w' ∧ Below w0.heap.size w w'

set_option maxHeartbeats 4000000 in
set_option maxRecDepth 100000 in
theorem grow_end (w0 : World) (g n : Nat) (before : List UInt8) (hl : before.length = 16) (path : List (List UInt8)) (A : Option Addr) (c : Nat) (ts : List (List UInt8)) (w : World) (hn : n ≤ 1000) (hp : path.length ≤ 1000) (h : KR w0 A c path) (hw : Below w0.heap.size w0 w) (ht : TX w0.heap.size w g ts) :
    Calls Tryz.prog 104 #[.pointer (some ⟨g, 0, none⟩), .agg (cellsB before).toArray, .int .i64 (n : Int), .int .i64 (n : Int), .slice A path.length c] w (GrowEnd w0 g ts (growS before n n path) w) := by
  rw [growS_end]
  unfold GrowEnd
  dsimp only
  have HZ := Lib.hid zero16
  have HK := Lib.hid hl
  have hws : w0.heap.size ≤ w.heap.size := hw.size
  have hni : (n : Int) ≤ 1000 := by omega
  have b0 := alloc3_bel w (.cells (cellsB before).toArray 24) (.cells (cellsB zeroK).toArray 24) (.cells (cellsB zeroK).toArray 24)
  have B0 := Lib.hid (blk_a0 w (cellsB before).toArray 24 (.cells (cellsB zeroK).toArray 24) (.cells (cellsB zeroK).toArray 24))
  have B1 := Lib.hid (blk_a1 w (.cells (cellsB before).toArray 24) (cellsB zeroK).toArray 24 (.cells (cellsB zeroK).toArray 24))
  have B2 := Lib.hid (blk_a2 w (.cells (cellsB before).toArray 24) (.cells (cellsB zeroK).toArray 24) (cellsB zeroK).toArray 24)
  have HTX := Lib.hid (ht.below b0)
  cases path with
  | nil =>
    rw [show ([] : List (List UInt8)).headD before = before from rfl]
    clear h hw ht hl hp hn
    go_enter Tryz.func104, Tryz.ntmps104
    go_wp2_with fail
    rw [HZ.out]
    have BX := B0.out
    have BR1 := B1.out
    have BR2 := B2.out
    have TXW := HTX.out
    have KW := KeepT.of_below b0
    have BWW := b0.mono hws
    clear B0 B1 B2 HTX b0
    generalize ((w.alloc (.cells (cellsB before).toArray 24)).alloc (.cells (cellsB zeroK).toArray 24)).alloc (.cells (cellsB zeroK).toArray 24) = W at BX BR1 BR2 TXW KW BWW ⊢
    refine wp_region_noPanic ?_
    refine wp_region_held_drew (S := fun w' => w'.rangeAt w.heap.size 0 (cellsB before)) (by kernel_rfl) BX.drew.range (fun hS => ?_)
    refine hd_load 0 w.heap.size 0 (cellsB before) _ _ rfl rfl rfl (by kernel_rfl) (by kernel_rfl) (by kernel_rfl) (fun _ _ _ h => h) rfl (fun w hw => hw) under_key rfl (key_info HK.out) hS ?_
    refine hd_load 1 w.heap.size 0 (cellsB before) _ _ rfl rfl rfl (by kernel_rfl) (by kernel_rfl) (by kernel_rfl) (fun _ _ _ h => h) rfl (fun w hw => hw) under_key rfl (key_info HK.out) hS ?_
    simp only [List.getElem_toArray, List.getElem_cons_succ, List.getElem_cons_zero, Act.put, List.setIfInBounds_toArray, List.set_cons_zero, List.set_cons_succ]
    have E1 := BR1.drew
    have hS2 := range_setRow hS (g' := w.heap.size + 1) (by omega) (cellsB before).toArray
    refine hd_store 2 (w.heap.size + 1) (cellsB before).toArray _ _ _ rfl rfl rfl (by kernel_rfl) rfl rfl E1 (cellsB_size _ HK.out) (by rw [List.size_toArray, List.size_toArray, cellsB_length, cellsB_length, HK.out]; rfl) (all_oneCell_toArray (cells_one before)) hS2 ?_
    have E2 := BR2.drew.row_ne (g' := w.heap.size + 1) (cs' := (cellsB before).toArray) (by omega)
    have hS3 := range_setRow hS2 (g' := w.heap.size + 1 + 1) (by omega) (cellsB before).toArray
    refine hd_store 3 (w.heap.size + 1 + 1) (cellsB before).toArray _ _ _ rfl rfl rfl (by kernel_rfl) rfl rfl E2 (cellsB_size _ HK.out) (by rw [List.size_toArray, List.size_toArray, cellsB_length, cellsB_length, HK.out]; rfl) (all_oneCell_toArray (cells_one before)) hS3 ?_
    refine wpAnyH_done (by kernel_rfl) (NoPanic.normal ?_) _
    simp only [List.getElem_toArray, List.getElem_cons_succ, List.getElem_cons_zero, Act.put, List.setIfInBounds_toArray, List.set_cons_zero, List.set_cons_succ]
    have F1 := Lib.hid ((E1.setRow (cellsB before).toArray).row_ne (g' := w.heap.size + 1 + 1) (cs' := (cellsB before).toArray) (by omega))
    have F2 := Lib.hid (E2.setRow (cellsB before).toArray)
    have FT := Lib.hid (((TXW.below (Below.refl _ _).drew).row E1 (cellsB before).toArray).row E2 (cellsB before).toArray)
    have FK := Lib.hid (((KW.trans (.of_below (Below.refl _ _).drew)).rowAbove (g := w.heap.size + 1) (by omega) (cellsB before).toArray).rowAbove (g := w.heap.size + 1 + 1) (by omega) (cellsB before).toArray)
    have FB := Lib.hid (below_setRow (below_setRow BWW.drew (g := w.heap.size + 1) (by omega) (cellsB before).toArray) (g := w.heap.size + 1 + 1) (by omega) (cellsB before).toArray)
    clear hS hS2 hS3 E1 E2 BX BR1 BR2 TXW KW BWW
    go_wp2_with fail
    refine bodyPost_ret (v := .tuple #[.agg (cellsB before).toArray, .agg (cellsB before).toArray]) ?_ rfl ⟨rfl, by rw [List.append_nil]; exact FT.out, FK.out, FB.out⟩
    rw [results_cell2 Tryz.results104]
    simp [asAddr, Result.andThen, run_loadVar_row _ (w.heap.size + 1) _ _ _ (0, 0) _ F1.out under_key rfl (cellsB_size _ HK.out), run_loadVar_row _ (w.heap.size + 1 + 1) _ _ _ (0, 0) _ F2.out under_key rfl (cellsB_size _ HK.out)]
  | cons x path =>
    rw [show (x :: path).headD before = x from rfl]
    obtain ⟨b, off, rfl, hb, hr⟩ := h.at_ (i := 0) (by simp)
    have hxl : x.length = 16 := h.2 x List.mem_cons_self
    have HX := Lib.hid hxl
    have HR := Lib.hid (show (((w.alloc (.cells (cellsB before).toArray 24)).alloc (.cells (cellsB zeroK).toArray 24)).alloc (.cells (cellsB zeroK).toArray 24)).rangeAt b off (cellsB x) from by have := range_below hr (hw.trans (b0.mono hws)); simpa using this)
    obtain ⟨m, hm⟩ : ∃ m, (x :: path).length = m + 1 := ⟨path.length, rfl⟩
    rw [hm]
    have hmi : (m : Int) ≤ 1000 := by rw [List.length_cons] at hm hp; omega
    have hm0 : (0 : Int) < (m : Int) + 1 := by omega
    have hxc : (cellsB x).length = 16 := by rw [cellsB_length, hxl]
    have hxa := all16 x
    have hrx : (rowAt (((w.alloc (.cells (cellsB before).toArray 24)).alloc (.cells (cellsB zeroK).toArray 24)).alloc (.cells (cellsB zeroK).toArray 24)) w.heap.size).size = 16 := by rw [B0.out.row, List.size_toArray, cellsB_length, hl]
    have hfx := B0.out.free
    clear h hw ht hl hp hn hb hr hxl hm
    go_enter Tryz.func104, Tryz.ntmps104
    go_wp2_with (rw [HZ.out]; refine wpList_load_mid rfl 24 (.tmp 25) rfl b off rfl (cellsB x) _ HR.out under_key rfl (key_info HX.out) ?_)
    have BX := B0.out.setRow (cellsB x).toArray
    have BR1 := B1.out.row_ne (g' := w.heap.size) (cs' := (cellsB x).toArray) (by omega)
    have BR2 := B2.out.row_ne (g' := w.heap.size) (cs' := (cellsB x).toArray) (by omega)
    have TXW := HTX.out.row B0.out (cellsB x).toArray
    have KW := (KeepT.of_below b0).row (cellsB x).toArray
    have BWW := below_setRow (b0.mono hws) (g := w.heap.size) hws (cellsB x).toArray
    clear B0 B1 B2 HTX b0 HR hrx hfx
    generalize (((w.alloc (.cells (cellsB before).toArray 24)).alloc (.cells (cellsB zeroK).toArray 24)).alloc (.cells (cellsB zeroK).toArray 24)).setRow w.heap.size (cellsB x).toArray = W at BX BR1 BR2 TXW KW BWW ⊢
    refine wp_region_noPanic ?_
    refine wp_region_held_drew (S := fun w' => w'.rangeAt w.heap.size 0 (cellsB x)) (by kernel_rfl) BX.drew.range (fun hS => ?_)
    refine hd_load 0 w.heap.size 0 (cellsB x) _ _ rfl rfl rfl (by kernel_rfl) (by kernel_rfl) (by kernel_rfl) (fun _ _ _ h => h) rfl (fun w hw => hw) under_key rfl (key_info HX.out) hS ?_
    refine hd_load 1 w.heap.size 0 (cellsB x) _ _ rfl rfl rfl (by kernel_rfl) (by kernel_rfl) (by kernel_rfl) (fun _ _ _ h => h) rfl (fun w hw => hw) under_key rfl (key_info HX.out) hS ?_
    simp only [List.getElem_toArray, List.getElem_cons_succ, List.getElem_cons_zero, Act.put, List.setIfInBounds_toArray, List.set_cons_zero, List.set_cons_succ]
    have E1 := BR1.drew
    have hS2 := range_setRow hS (g' := w.heap.size + 1) (by omega) (cellsB x).toArray
    refine hd_store 2 (w.heap.size + 1) (cellsB x).toArray _ _ _ rfl rfl rfl (by kernel_rfl) rfl rfl E1 (cellsB_size _ HX.out) (by rw [List.size_toArray, List.size_toArray, cellsB_length, cellsB_length, HX.out]; rfl) (all_oneCell_toArray (cells_one x)) hS2 ?_
    have E2 := BR2.drew.row_ne (g' := w.heap.size + 1) (cs' := (cellsB x).toArray) (by omega)
    have hS3 := range_setRow hS2 (g' := w.heap.size + 1 + 1) (by omega) (cellsB x).toArray
    refine hd_store 3 (w.heap.size + 1 + 1) (cellsB x).toArray _ _ _ rfl rfl rfl (by kernel_rfl) rfl rfl E2 (cellsB_size _ HX.out) (by rw [List.size_toArray, List.size_toArray, cellsB_length, cellsB_length, HX.out]; rfl) (all_oneCell_toArray (cells_one x)) hS3 ?_
    refine wpAnyH_done (by kernel_rfl) (NoPanic.normal ?_) _
    simp only [List.getElem_toArray, List.getElem_cons_succ, List.getElem_cons_zero, Act.put, List.setIfInBounds_toArray, List.set_cons_zero, List.set_cons_succ]
    have F1 := Lib.hid ((E1.setRow (cellsB x).toArray).row_ne (g' := w.heap.size + 1 + 1) (cs' := (cellsB x).toArray) (by omega))
    have F2 := Lib.hid (E2.setRow (cellsB x).toArray)
    have FT := Lib.hid (((TXW.below (Below.refl _ _).drew).row E1 (cellsB x).toArray).row E2 (cellsB x).toArray)
    have FK := Lib.hid (((KW.trans (.of_below (Below.refl _ _).drew)).rowAbove (g := w.heap.size + 1) (by omega) (cellsB x).toArray).rowAbove (g := w.heap.size + 1 + 1) (by omega) (cellsB x).toArray)
    have FB := Lib.hid (below_setRow (below_setRow BWW.drew (g := w.heap.size + 1) (by omega) (cellsB x).toArray) (g := w.heap.size + 1 + 1) (by omega) (cellsB x).toArray)
    clear hS hS2 hS3 E1 E2 BX BR1 BR2 TXW KW BWW
    go_wp2_with fail
    refine bodyPost_ret (v := .tuple #[.agg (cellsB x).toArray, .agg (cellsB x).toArray]) ?_ rfl ⟨rfl, by rw [List.append_nil]; exact FT.out, FK.out, FB.out⟩
    rw [results_cell2 Tryz.results104]
    simp [asAddr, Result.andThen, run_loadVar_row _ (w.heap.size + 1) _ _ _ (0, 0) _ F1.out under_key rfl (cellsB_size _ HX.out), run_loadVar_row _ (w.heap.size + 1 + 1) _ _ _ (0, 0) _ F2.out under_key rfl (cellsB_size _ HX.out)]
end Go.Proofs.YtinpiodfpnbllaaGreatDoor

/- The two roots that a growth gives: the program's, with its recursion. -/
namespace Go.Proofs.YtinpiodfpnbllaaGreatDoor
open Go.RowKit
set_option linter.unusedVariables false
set_option linter.unusedSimpArgs false
attribute [local go_sem] run_storeCells_key run_storeCells_new

set_option maxHeartbeats 8000000 in
set_option maxRecDepth 100000 in
theorem grow_any (w0 : World) (g : Nat) (before : List UInt8) (hl : before.length = 16) (n : Nat) : ∀ (m : Nat) (wh : Bool) (path : List (List UInt8)) (A : Option Addr) (c : Nat) (ts : List (List UInt8)) (w : World), 1 ≤ m → m ≤ n → n ≤ 1000 → path.length = partsS n m wh → KR w0 A c path → Below w0.heap.size w0 w → TX w0.heap.size w g ts → ts.length + 2 * n ≤ 50000 →
    Calls Tryz.prog 104 #[.pointer (some ⟨g, 0, none⟩), .agg (cellsB before).toArray, .int .i64 (n : Int), .int .i64 (m : Int), .slice A path.length c] w (GrowEnd w0 g ts (growS before n m path) w) := by
  induction n using Nat.strongRecOn with
  | _ n ih =>
    intro m wh path A c ts w h1 hm hbig hp h hw ht hts
    by_cases hne : m = n
    · subst hne
      exact grow_end w0 g m before hl path A c ts w hbig (by rw [hp, partsS_end]; split <;> omega) h hw ht
    have h2 : 2 ≤ n := by omega
    have hs1 := splitS_pos n
    have hs2 := splitS_lt h2
    have hni : (2 : Int) ≤ (n : Int) := by omega
    have hnb : (n : Int) ≤ 1000 := by omega
    have hmb : (m : Int) ≤ (n : Int) := by omega
    have hnei : ¬ (m : Int) = (n : Int) := by omega
    have hws : w0.heap.size ≤ w.heap.size := hw.size
    have hcl := Rd.le h.1
    have hcap := Rd.len h.1
    have HSP : Hid (∀ W, Calls Tryz.prog 113 #[.int .i64 (n : Int)] W fun e w' => e = .returned (.int .i64 ((splitS n : Nat) : Int)) ∧ W = w') := fun W => split_any n W h2 (by omega)
    have b0 := alloc3_bel w (.cells (cellsB before).toArray 24) (.cells (cellsB zeroK).toArray 24) (.cells (cellsB zeroK).toArray 24)
    have B0 := Lib.hid (blk_a0 w (cellsB before).toArray 24 (.cells (cellsB zeroK).toArray 24) (.cells (cellsB zeroK).toArray 24))
    have B1 := Lib.hid (blk_a1 w (.cells (cellsB before).toArray 24) (cellsB zeroK).toArray 24 (.cells (cellsB zeroK).toArray 24))
    have B2 := Lib.hid (blk_a2 w (.cells (cellsB before).toArray 24) (.cells (cellsB zeroK).toArray 24) (cellsB zeroK).toArray 24)
    have HTX := Lib.hid (ht.below b0)
    have HW := Lib.hid hw
    have HZ := Lib.hid zero16
    have HK := Lib.hid hl
    by_cases hk : m ≤ splitS n
    · skip
      have hki : (m : Int) ≤ ((splitS n : Nat) : Int) := by omega
      obtain ⟨l, hl1⟩ : ∃ l, path.length = l + 1 := ⟨path.length - 1, by rw [hp, partsS_low wh h2 hne hk]; omega⟩
      rw [growS_low _ _ h2 hne hk]
      have hle := growS_le before (splitS n) m (initK path)
      obtain ⟨hpl, hql⟩ := growS_length hl (splitS n) m (path := initK path) (fun k hk => h.2 k (initK_mem hk))
      have HC : Hid (∀ W, Below w0.heap.size w0 W → TX w0.heap.size W g ts → Calls Tryz.prog 104 #[.pointer (some ⟨g, 0, none⟩), .agg (cellsB before).toArray, .int .i64 ((splitS n : Nat) : Int), .int .i64 (m : Int), .slice A l c] W (GrowEnd w0 g ts (growS before (splitS n) m (initK path)) W)) := fun W hW hT => by
        have hlen : l = (initK path).length := by rw [initK_length, hl1]; omega
        rw [hlen]
        exact ih (splitS n) hs2 m wh (initK path) A c ts W h1 hk (by omega) (by rw [initK_length, hp, partsS_low wh h2 hne hk]; omega) h.init hW hT (by omega)
      obtain ⟨b, off, rfl, hb, hr, hhl⟩ := h.lastAt hl1
      have HR : Hid (∀ W, Below w0.heap.size w0 W → W.rangeAt b (off + l * 16) (cellsB (lastK path))) := fun W hW => range_below hr hW
      have HH := Lib.hid hhl
      have hli : (l : Int) ≤ 140737488351232 := by omega
      have hlc : l ≤ c := by omega
      have hllt : (l : Int) < (l : Int) + 1 := by omega
      have hsl := fun W => slice_keys_to W (some ⟨b, off, none⟩) (l + 1) c l hlc
      generalize growS before (splitS n) m (initK path) = r at HC hle hpl hql ⊢
      obtain ⟨p, q, x⟩ := r
      unfold GrowEnd at HC ⊢
      dsimp only at HC hle hpl hql ⊢
      generalize lastK path = h0 at HR HH ⊢
      rw [hl1]
      generalize splitS n = k at *
      have HPL := Lib.hid hpl
      have HQL := Lib.hid hql
      have HNT1 : Hid (∀ W, Calls Tryz.prog 98 #[.agg (cellsB q).toArray, .agg (cellsB h0).toArray] W fun e w' => (∃ A c, e = .returned (.slice A 33 c) ∧ OB W.heap.size w' A c (nodeT q h0)) ∧ Below W.heap.size W w') := fun W => nodeText_any q h0 W (by first | exact HPL.out | exact HQL.out | exact HH.out) (by first | exact HH.out | exact HPL.out | exact HQL.out)
      have HNL1 : Hid ((nodeT q h0).length = 33) := by unfold Hid nodeT; simp [HPL.out, HQL.out, HH.out]
      generalize nodeT q h0 = t1 at HNT1 HNL1 ⊢
      have HTK1 : Hid (∀ X d W, TX w0.heap.size W g (ts ++ x) → OB w0.heap.size W X d t1 → Calls Tryz.prog 95 #[.pointer (some ⟨g, 0, none⟩), .slice X 33 d] W fun e w' => e = .returned (.agg (cellsB (digS t1)).toArray) ∧ TX w0.heap.size w' g ((ts ++ x) ++ [t1]) ∧ KeepT W w' ∧ Below w0.heap.size W w') := fun X d W h1 h2 => take_any _ t1 X d g W HNL1.out h1 h2 (by omega) (by simp only [List.length_append, List.length_cons, List.length_nil]; omega)
      have HDL1 : Hid ((digS t1).length = 16) := digS_length _
      generalize digS t1 = d1 at HDL1 HTK1 ⊢
      have HBW : Hid (b < w0.heap.size) := hb
      clear ih h hp hl1 hw ht hts hle hr hhl hb hl hpl hql
      go_enter Tryz.func104, Tryz.ntmps104
      go_wp2_with (go_at_call 113; rw [HZ.out]; refine (HSP.out _).mono ?_; rintro e w1 ⟨rfl, rfl⟩)
      obtain ⟨W0, hW0⟩ : ∃ W : World, W = ((w.alloc (.cells (cellsB before).toArray 24)).alloc (.cells (cellsB zeroK).toArray 24)).alloc (.cells (cellsB zeroK).toArray 24) := ⟨_, rfl⟩
      have hzz : W0.heap.size = w.heap.size + 1 + 1 + 1 := by rw [hW0]; simp
      rw [← hW0] at b0 B0 B1 B2 HTX ⊢
      clear hW0
      have hz0 : w0.heap.size ≤ W0.heap.size := by omega
      refine wp_region_noPanic ?_
      have HS0 : ∀ W t, St w0 w W0 g W t → W.rangeAt w.heap.size 0 (cellsB before) := fun W t s => (s.k _ _ B0.out).range
      have S0 : St w0 w W0 g W0.drew ts := ⟨(b0.mono hws).trans (Below.refl _ _).drew, HW.out.trans ((b0.mono hws).trans (Below.refl _ _).drew), HTX.out.below (Below.refl _ _).drew, .of_below (Below.refl _ _).drew, Nat.le_refl _⟩
      refine wp_region_held_drew (S := fun w' => w'.rangeAt w.heap.size 0 (cellsB before)) (by kernel_rfl) (HS0 _ _ S0) (fun hS => ?_)
      refine hd_take 0 (_) rfl rfl (by kernel_rfl) (by kernel_rfl) (by kernel_rfl) (fun _ _ _ h => h) (fun w _ => by go_simp <;> rfl) hS ?_
      refine hd_take 2 (_) rfl rfl (by kernel_rfl) (by kernel_rfl) (by kernel_rfl) (fun _ _ _ h => h) (fun w _ => by go_simp <;> rfl) hS ?_
      refine hd_take 3 (_) rfl rfl (by kernel_rfl) (by kernel_rfl) (by kernel_rfl) (fun _ _ _ h => h) (fun w _ => by go_simp <;> rfl) hS ?_
      refine hd_take 4 (_) rfl rfl (by kernel_rfl) (by kernel_rfl) (by kernel_rfl) (fun _ _ _ h => h) (fun w _ => by go_simp <;> rfl) hS ?_
      refine hd_take 5 (_) rfl rfl (by kernel_rfl) (by kernel_rfl) (by kernel_rfl) (fun _ _ _ h => h) (fun w _ => by go_simp <;> rfl) hS ?_
      simp only [List.getElem_toArray, List.getElem_cons_succ, List.getElem_cons_zero, Act.put, List.setIfInBounds_toArray, List.set_cons_zero, List.set_cons_succ]
      refine hd_take 6 (_) rfl rfl (by kernel_rfl) (by kernel_rfl) (by kernel_rfl) (fun _ _ _ h => h) (fun w _ => by go_simp <;> rfl) hS ?_
      simp only [List.getElem_toArray, List.getElem_cons_succ, List.getElem_cons_zero, Act.put, List.setIfInBounds_toArray, List.set_cons_zero, List.set_cons_succ]
      refine hd_load 1 w.heap.size 0 (cellsB before) _ _ rfl rfl rfl (by kernel_rfl) (by kernel_rfl) (by kernel_rfl) (fun _ _ _ h => h) rfl (fun w hw => hw) under_key rfl (key_info HK.out) hS ?_
      simp only [List.getElem_toArray, List.getElem_cons_succ, List.getElem_cons_zero, Act.put, List.setIfInBounds_toArray, List.set_cons_zero, List.set_cons_succ]
      refine' (fun (HIN : ∀ (ga gb : Nat) (W4 : World), Twins w0 w W0 g (ts ++ x) ga gb W4 → (_ : Nat → Nat → World → Prop) ga gb W4) => _) _
      rotate_left
      · skip
        refine hd_three 7 11 12 (by kernel_rfl) (op_call 104 #[.pointer (some ⟨g, 0, none⟩), .agg (cellsB before).toArray, .int .i64 (k : Int), .int .i64 (m : Int), .slice (some ⟨b, off, none⟩) l c] rfl rfl (by go_simp) ((HC.out _ S0.b S0.t).mono ?_)) (op_run (.pointer (some ⟨W0.heap.size, 0, none⟩)) (W0.drew.alloc (.cells (cellsB zeroK).toArray 24)) rfl rfl (by rw [← HZ.out]; go_simp) ⟨HS0 _ _ (S0.on (alloc_bel _ _)), ?_⟩) (op_run (.pointer (some ⟨W0.heap.size, 0, none⟩)) (W0.drew.alloc (.cells (cellsB zeroK).toArray 24)) rfl rfl (by rw [← HZ.out]; go_simp) ⟨HS0 _ _ (S0.on (alloc_bel _ _)), ?_⟩)
        · skip
          rintro e vC ⟨rfl, htC, hkC, hbC⟩
          have SC := S0.step htC hkC hbC
          have zC := SC.z
          refine ⟨_, rfl, HS0 _ _ SC, ?_⟩
          simp only [List.getElem_toArray, List.getElem_cons_succ, List.getElem_cons_zero, Act.put, List.setIfInBounds_toArray, List.set_cons_zero, List.set_cons_succ]
          refine hd_take 8 (_) rfl rfl (by kernel_rfl) (by kernel_rfl) (by kernel_rfl) (fun _ _ _ h => h) (fun w _ => by go_simp <;> rfl) (HS0 _ _ SC) ?_
          simp only [List.getElem_toArray, List.getElem_cons_succ, List.getElem_cons_zero, Act.put, List.setIfInBounds_toArray, List.set_cons_zero, List.set_cons_succ]
          refine hd_take 9 (_) rfl rfl (by kernel_rfl) (by kernel_rfl) (by kernel_rfl) (fun _ _ _ h => h) (fun w _ => by go_simp <;> rfl) (HS0 _ _ SC) ?_
          simp only [List.getElem_toArray, List.getElem_cons_succ, List.getElem_cons_zero, Act.put, List.setIfInBounds_toArray, List.set_cons_zero, List.set_cons_succ]
          refine hd_take 10 (_) rfl rfl (by kernel_rfl) (by kernel_rfl) (by kernel_rfl) (fun _ _ _ h => h) (fun w _ => by go_simp <;> rfl) (HS0 _ _ SC) ?_
          simp only [List.getElem_toArray, List.getElem_cons_succ, List.getElem_cons_zero, Act.put, List.setIfInBounds_toArray, List.set_cons_zero, List.set_cons_succ]
          refine hd_two 11 12 (by kernel_rfl) (op_run (.pointer (some ⟨vC.heap.size, 0, none⟩)) (vC.alloc (.cells (cellsB zeroK).toArray 24)) rfl rfl (by rw [← HZ.out]; go_simp) ⟨HS0 _ _ (SC.on (alloc_bel _ _)), ?_⟩) (op_run (.pointer (some ⟨vC.heap.size, 0, none⟩)) (vC.alloc (.cells (cellsB zeroK).toArray 24)) rfl rfl (by rw [← HZ.out]; go_simp) ⟨HS0 _ _ (SC.on (alloc_bel _ _)), ?_⟩)
          · skip
            simp only [List.getElem_toArray, List.getElem_cons_succ, List.getElem_cons_zero, Act.put, List.setIfInBounds_toArray, List.set_cons_zero, List.set_cons_succ]
            have SCA := SC.on (alloc_bel vC (.cells (cellsB zeroK).toArray 24))
            have KACA : Blk (vC.alloc (.cells (cellsB zeroK).toArray 24)) (vC.heap.size) 24 (cellsB zeroK).toArray := by have h := Blk.new vC 24 (cellsB zeroK).toArray; first | exact h | simpa using h
            have yCA : W0.heap.size ≤ vC.heap.size := by have h := SC.z; first | exact h | simpa using h
            refine hd_sole 12 (by kernel_rfl) (op_run (.pointer (some ⟨vC.heap.size + 1, 0, none⟩)) ((vC.alloc (.cells (cellsB zeroK).toArray 24)).alloc (.cells (cellsB zeroK).toArray 24)) rfl rfl (by rw [← HZ.out]; go_simp) ⟨HS0 _ _ (SCA.on (alloc_bel _ _)), ?_⟩)
            simp only [List.getElem_toArray, List.getElem_cons_succ, List.getElem_cons_zero, Act.put, List.setIfInBounds_toArray, List.set_cons_zero, List.set_cons_succ]
            have SCAB := SCA.on (alloc_bel (vC.alloc (.cells (cellsB zeroK).toArray 24)) (.cells (cellsB zeroK).toArray 24))
            have KACAB := KACA.alloc (.cells (cellsB zeroK).toArray 24)
            have LACAB := KACA.lt
            have KBCAB : Blk ((vC.alloc (.cells (cellsB zeroK).toArray 24)).alloc (.cells (cellsB zeroK).toArray 24)) (vC.heap.size + 1) 24 (cellsB zeroK).toArray := by have h := Blk.new (vC.alloc (.cells (cellsB zeroK).toArray 24)) 24 (cellsB zeroK).toArray; first | exact h | simpa using h
            have yCAB : W0.heap.size ≤ vC.heap.size + 1 := by have h := SCA.z; first | exact h | simpa using h
            obtain ⟨ga, hga⟩ : ∃ k, k = vC.heap.size := ⟨_, rfl⟩
            obtain ⟨gb, hgb⟩ : ∃ k, k = vC.heap.size + 1 := ⟨_, rfl⟩
            obtain ⟨W4, hW4⟩ : ∃ V : World, V = ((vC.alloc (.cells (cellsB zeroK).toArray 24)).alloc (.cells (cellsB zeroK).toArray 24)) := ⟨_, rfl⟩
            have hpp : Twins w0 w W0 g (ts ++ x) ga gb W4 := by rw [hga, hgb, hW4]; exact ⟨SCAB, KACAB, KBCAB, by omega, by omega, by omega⟩
            rw [← hW4, ← hgb, ← hga]
            exact HIN ga gb W4 hpp
          · skip
            simp only [List.getElem_toArray, List.getElem_cons_succ, List.getElem_cons_zero, Act.put, List.setIfInBounds_toArray, List.set_cons_zero, List.set_cons_succ]
            have SCB := SC.on (alloc_bel vC (.cells (cellsB zeroK).toArray 24))
            have KBCB : Blk (vC.alloc (.cells (cellsB zeroK).toArray 24)) (vC.heap.size) 24 (cellsB zeroK).toArray := by have h := Blk.new vC 24 (cellsB zeroK).toArray; first | exact h | simpa using h
            have yCB : W0.heap.size ≤ vC.heap.size := by have h := SC.z; first | exact h | simpa using h
            refine hd_sole 11 (by kernel_rfl) (op_run (.pointer (some ⟨vC.heap.size + 1, 0, none⟩)) ((vC.alloc (.cells (cellsB zeroK).toArray 24)).alloc (.cells (cellsB zeroK).toArray 24)) rfl rfl (by rw [← HZ.out]; go_simp) ⟨HS0 _ _ (SCB.on (alloc_bel _ _)), ?_⟩)
            simp only [List.getElem_toArray, List.getElem_cons_succ, List.getElem_cons_zero, Act.put, List.setIfInBounds_toArray, List.set_cons_zero, List.set_cons_succ]
            have SCBA := SCB.on (alloc_bel (vC.alloc (.cells (cellsB zeroK).toArray 24)) (.cells (cellsB zeroK).toArray 24))
            have KBCBA := KBCB.alloc (.cells (cellsB zeroK).toArray 24)
            have LBCBA := KBCB.lt
            have KACBA : Blk ((vC.alloc (.cells (cellsB zeroK).toArray 24)).alloc (.cells (cellsB zeroK).toArray 24)) (vC.heap.size + 1) 24 (cellsB zeroK).toArray := by have h := Blk.new (vC.alloc (.cells (cellsB zeroK).toArray 24)) 24 (cellsB zeroK).toArray; first | exact h | simpa using h
            have yCBA : W0.heap.size ≤ vC.heap.size + 1 := by have h := SCB.z; first | exact h | simpa using h
            obtain ⟨ga, hga⟩ : ∃ k, k = vC.heap.size + 1 := ⟨_, rfl⟩
            obtain ⟨gb, hgb⟩ : ∃ k, k = vC.heap.size := ⟨_, rfl⟩
            obtain ⟨W4, hW4⟩ : ∃ V : World, V = ((vC.alloc (.cells (cellsB zeroK).toArray 24)).alloc (.cells (cellsB zeroK).toArray 24)) := ⟨_, rfl⟩
            have hpp : Twins w0 w W0 g (ts ++ x) ga gb W4 := by rw [hga, hgb, hW4]; exact ⟨SCBA, KACBA, KBCBA, by omega, by omega, by omega⟩
            rw [← hW4, ← hga, ← hgb]
            exact HIN ga gb W4 hpp
        · skip
          simp only [List.getElem_toArray, List.getElem_cons_succ, List.getElem_cons_zero, Act.put, List.setIfInBounds_toArray, List.set_cons_zero, List.set_cons_succ]
          have SA := S0.on (alloc_bel W0.drew (.cells (cellsB zeroK).toArray 24))
          have KAA : Blk (W0.drew.alloc (.cells (cellsB zeroK).toArray 24)) (W0.heap.size) 24 (cellsB zeroK).toArray := by have h := Blk.new W0.drew 24 (cellsB zeroK).toArray; first | exact h | simpa using h
          have yA : W0.heap.size ≤ W0.heap.size := by have h := S0.z; first | exact h | simpa using h
          refine hd_two 7 12 (by kernel_rfl) (op_call 104 #[.pointer (some ⟨g, 0, none⟩), .agg (cellsB before).toArray, .int .i64 (k : Int), .int .i64 (m : Int), .slice (some ⟨b, off, none⟩) l c] rfl rfl (by go_simp) ((HC.out _ SA.b SA.t).mono ?_)) (op_run (.pointer (some ⟨W0.heap.size + 1, 0, none⟩)) ((W0.drew.alloc (.cells (cellsB zeroK).toArray 24)).alloc (.cells (cellsB zeroK).toArray 24)) rfl rfl (by rw [← HZ.out]; go_simp) ⟨HS0 _ _ (SA.on (alloc_bel _ _)), ?_⟩)
          · skip
            rintro e vAC ⟨rfl, htAC, hkAC, hbAC⟩
            have SAC := SA.step htAC hkAC hbAC
            have zAC := SAC.z
            have KAAC := hkAC _ _ KAA
            have LAAC := KAAC.lt
            refine ⟨_, rfl, HS0 _ _ SAC, ?_⟩
            simp only [List.getElem_toArray, List.getElem_cons_succ, List.getElem_cons_zero, Act.put, List.setIfInBounds_toArray, List.set_cons_zero, List.set_cons_succ]
            refine hd_take 8 (_) rfl rfl (by kernel_rfl) (by kernel_rfl) (by kernel_rfl) (fun _ _ _ h => h) (fun w _ => by go_simp <;> rfl) (HS0 _ _ SAC) ?_
            simp only [List.getElem_toArray, List.getElem_cons_succ, List.getElem_cons_zero, Act.put, List.setIfInBounds_toArray, List.set_cons_zero, List.set_cons_succ]
            refine hd_take 9 (_) rfl rfl (by kernel_rfl) (by kernel_rfl) (by kernel_rfl) (fun _ _ _ h => h) (fun w _ => by go_simp <;> rfl) (HS0 _ _ SAC) ?_
            simp only [List.getElem_toArray, List.getElem_cons_succ, List.getElem_cons_zero, Act.put, List.setIfInBounds_toArray, List.set_cons_zero, List.set_cons_succ]
            refine hd_take 10 (_) rfl rfl (by kernel_rfl) (by kernel_rfl) (by kernel_rfl) (fun _ _ _ h => h) (fun w _ => by go_simp <;> rfl) (HS0 _ _ SAC) ?_
            simp only [List.getElem_toArray, List.getElem_cons_succ, List.getElem_cons_zero, Act.put, List.setIfInBounds_toArray, List.set_cons_zero, List.set_cons_succ]
            refine hd_sole 12 (by kernel_rfl) (op_run (.pointer (some ⟨vAC.heap.size, 0, none⟩)) (vAC.alloc (.cells (cellsB zeroK).toArray 24)) rfl rfl (by rw [← HZ.out]; go_simp) ⟨HS0 _ _ (SAC.on (alloc_bel _ _)), ?_⟩)
            simp only [List.getElem_toArray, List.getElem_cons_succ, List.getElem_cons_zero, Act.put, List.setIfInBounds_toArray, List.set_cons_zero, List.set_cons_succ]
            have SACB := SAC.on (alloc_bel vAC (.cells (cellsB zeroK).toArray 24))
            have KAACB := KAAC.alloc (.cells (cellsB zeroK).toArray 24)
            have LAACB := KAAC.lt
            have KBACB : Blk (vAC.alloc (.cells (cellsB zeroK).toArray 24)) (vAC.heap.size) 24 (cellsB zeroK).toArray := by have h := Blk.new vAC 24 (cellsB zeroK).toArray; first | exact h | simpa using h
            have yACB : W0.heap.size ≤ vAC.heap.size := by have h := SAC.z; first | exact h | simpa using h
            obtain ⟨ga, hga⟩ : ∃ k, k = W0.heap.size := ⟨_, rfl⟩
            obtain ⟨gb, hgb⟩ : ∃ k, k = vAC.heap.size := ⟨_, rfl⟩
            obtain ⟨W4, hW4⟩ : ∃ V : World, V = (vAC.alloc (.cells (cellsB zeroK).toArray 24)) := ⟨_, rfl⟩
            have hpp : Twins w0 w W0 g (ts ++ x) ga gb W4 := by rw [hga, hgb, hW4]; exact ⟨SACB, KAACB, KBACB, by omega, by omega, by omega⟩
            rw [← hW4, ← hgb, ← hga]
            exact HIN ga gb W4 hpp
          · skip
            simp only [List.getElem_toArray, List.getElem_cons_succ, List.getElem_cons_zero, Act.put, List.setIfInBounds_toArray, List.set_cons_zero, List.set_cons_succ]
            have SAB := SA.on (alloc_bel (W0.drew.alloc (.cells (cellsB zeroK).toArray 24)) (.cells (cellsB zeroK).toArray 24))
            have KAAB := KAA.alloc (.cells (cellsB zeroK).toArray 24)
            have LAAB := KAA.lt
            have KBAB : Blk ((W0.drew.alloc (.cells (cellsB zeroK).toArray 24)).alloc (.cells (cellsB zeroK).toArray 24)) (W0.heap.size + 1) 24 (cellsB zeroK).toArray := by have h := Blk.new (W0.drew.alloc (.cells (cellsB zeroK).toArray 24)) 24 (cellsB zeroK).toArray; first | exact h | simpa using h
            have yAB : W0.heap.size ≤ W0.heap.size + 1 := by have h := SA.z; first | exact h | simpa using h
            refine hd_sole 7 (by kernel_rfl) (op_call 104 #[.pointer (some ⟨g, 0, none⟩), .agg (cellsB before).toArray, .int .i64 (k : Int), .int .i64 (m : Int), .slice (some ⟨b, off, none⟩) l c] rfl rfl (by go_simp) ((HC.out _ SAB.b SAB.t).mono ?_))
            rintro e vABC ⟨rfl, htABC, hkABC, hbABC⟩
            have SABC := SAB.step htABC hkABC hbABC
            have zABC := SABC.z
            have KAABC := hkABC _ _ KAAB
            have LAABC := KAABC.lt
            have KBABC := hkABC _ _ KBAB
            have LBABC := KBABC.lt
            refine ⟨_, rfl, HS0 _ _ SABC, ?_⟩
            simp only [List.getElem_toArray, List.getElem_cons_succ, List.getElem_cons_zero, Act.put, List.setIfInBounds_toArray, List.set_cons_zero, List.set_cons_succ]
            refine hd_take 8 (_) rfl rfl (by kernel_rfl) (by kernel_rfl) (by kernel_rfl) (fun _ _ _ h => h) (fun w _ => by go_simp <;> rfl) (HS0 _ _ SABC) ?_
            simp only [List.getElem_toArray, List.getElem_cons_succ, List.getElem_cons_zero, Act.put, List.setIfInBounds_toArray, List.set_cons_zero, List.set_cons_succ]
            refine hd_take 9 (_) rfl rfl (by kernel_rfl) (by kernel_rfl) (by kernel_rfl) (fun _ _ _ h => h) (fun w _ => by go_simp <;> rfl) (HS0 _ _ SABC) ?_
            simp only [List.getElem_toArray, List.getElem_cons_succ, List.getElem_cons_zero, Act.put, List.setIfInBounds_toArray, List.set_cons_zero, List.set_cons_succ]
            refine hd_take 10 (_) rfl rfl (by kernel_rfl) (by kernel_rfl) (by kernel_rfl) (fun _ _ _ h => h) (fun w _ => by go_simp <;> rfl) (HS0 _ _ SABC) ?_
            simp only [List.getElem_toArray, List.getElem_cons_succ, List.getElem_cons_zero, Act.put, List.setIfInBounds_toArray, List.set_cons_zero, List.set_cons_succ]
            obtain ⟨ga, hga⟩ : ∃ k, k = W0.heap.size := ⟨_, rfl⟩
            obtain ⟨gb, hgb⟩ : ∃ k, k = W0.heap.size + 1 := ⟨_, rfl⟩
            obtain ⟨W4, hW4⟩ : ∃ V : World, V = vABC := ⟨_, rfl⟩
            have hpp : Twins w0 w W0 g (ts ++ x) ga gb W4 := by rw [hga, hgb, hW4]; exact ⟨SABC, KAABC, KBABC, by omega, by omega, by omega⟩
            rw [← hW4, ← hgb, ← hga]
            exact HIN ga gb W4 hpp
        · skip
          simp only [List.getElem_toArray, List.getElem_cons_succ, List.getElem_cons_zero, Act.put, List.setIfInBounds_toArray, List.set_cons_zero, List.set_cons_succ]
          have SB := S0.on (alloc_bel W0.drew (.cells (cellsB zeroK).toArray 24))
          have KBB : Blk (W0.drew.alloc (.cells (cellsB zeroK).toArray 24)) (W0.heap.size) 24 (cellsB zeroK).toArray := by have h := Blk.new W0.drew 24 (cellsB zeroK).toArray; first | exact h | simpa using h
          have yB : W0.heap.size ≤ W0.heap.size := by have h := S0.z; first | exact h | simpa using h
          refine hd_two 7 11 (by kernel_rfl) (op_call 104 #[.pointer (some ⟨g, 0, none⟩), .agg (cellsB before).toArray, .int .i64 (k : Int), .int .i64 (m : Int), .slice (some ⟨b, off, none⟩) l c] rfl rfl (by go_simp) ((HC.out _ SB.b SB.t).mono ?_)) (op_run (.pointer (some ⟨W0.heap.size + 1, 0, none⟩)) ((W0.drew.alloc (.cells (cellsB zeroK).toArray 24)).alloc (.cells (cellsB zeroK).toArray 24)) rfl rfl (by rw [← HZ.out]; go_simp) ⟨HS0 _ _ (SB.on (alloc_bel _ _)), ?_⟩)
          · skip
            rintro e vBC ⟨rfl, htBC, hkBC, hbBC⟩
            have SBC := SB.step htBC hkBC hbBC
            have zBC := SBC.z
            have KBBC := hkBC _ _ KBB
            have LBBC := KBBC.lt
            refine ⟨_, rfl, HS0 _ _ SBC, ?_⟩
            simp only [List.getElem_toArray, List.getElem_cons_succ, List.getElem_cons_zero, Act.put, List.setIfInBounds_toArray, List.set_cons_zero, List.set_cons_succ]
            refine hd_take 8 (_) rfl rfl (by kernel_rfl) (by kernel_rfl) (by kernel_rfl) (fun _ _ _ h => h) (fun w _ => by go_simp <;> rfl) (HS0 _ _ SBC) ?_
            simp only [List.getElem_toArray, List.getElem_cons_succ, List.getElem_cons_zero, Act.put, List.setIfInBounds_toArray, List.set_cons_zero, List.set_cons_succ]
            refine hd_take 9 (_) rfl rfl (by kernel_rfl) (by kernel_rfl) (by kernel_rfl) (fun _ _ _ h => h) (fun w _ => by go_simp <;> rfl) (HS0 _ _ SBC) ?_
            simp only [List.getElem_toArray, List.getElem_cons_succ, List.getElem_cons_zero, Act.put, List.setIfInBounds_toArray, List.set_cons_zero, List.set_cons_succ]
            refine hd_take 10 (_) rfl rfl (by kernel_rfl) (by kernel_rfl) (by kernel_rfl) (fun _ _ _ h => h) (fun w _ => by go_simp <;> rfl) (HS0 _ _ SBC) ?_
            simp only [List.getElem_toArray, List.getElem_cons_succ, List.getElem_cons_zero, Act.put, List.setIfInBounds_toArray, List.set_cons_zero, List.set_cons_succ]
            refine hd_sole 11 (by kernel_rfl) (op_run (.pointer (some ⟨vBC.heap.size, 0, none⟩)) (vBC.alloc (.cells (cellsB zeroK).toArray 24)) rfl rfl (by rw [← HZ.out]; go_simp) ⟨HS0 _ _ (SBC.on (alloc_bel _ _)), ?_⟩)
            simp only [List.getElem_toArray, List.getElem_cons_succ, List.getElem_cons_zero, Act.put, List.setIfInBounds_toArray, List.set_cons_zero, List.set_cons_succ]
            have SBCA := SBC.on (alloc_bel vBC (.cells (cellsB zeroK).toArray 24))
            have KBBCA := KBBC.alloc (.cells (cellsB zeroK).toArray 24)
            have LBBCA := KBBC.lt
            have KABCA : Blk (vBC.alloc (.cells (cellsB zeroK).toArray 24)) (vBC.heap.size) 24 (cellsB zeroK).toArray := by have h := Blk.new vBC 24 (cellsB zeroK).toArray; first | exact h | simpa using h
            have yBCA : W0.heap.size ≤ vBC.heap.size := by have h := SBC.z; first | exact h | simpa using h
            obtain ⟨ga, hga⟩ : ∃ k, k = vBC.heap.size := ⟨_, rfl⟩
            obtain ⟨gb, hgb⟩ : ∃ k, k = W0.heap.size := ⟨_, rfl⟩
            obtain ⟨W4, hW4⟩ : ∃ V : World, V = (vBC.alloc (.cells (cellsB zeroK).toArray 24)) := ⟨_, rfl⟩
            have hpp : Twins w0 w W0 g (ts ++ x) ga gb W4 := by rw [hga, hgb, hW4]; exact ⟨SBCA, KABCA, KBBCA, by omega, by omega, by omega⟩
            rw [← hW4, ← hga, ← hgb]
            exact HIN ga gb W4 hpp
          · skip
            simp only [List.getElem_toArray, List.getElem_cons_succ, List.getElem_cons_zero, Act.put, List.setIfInBounds_toArray, List.set_cons_zero, List.set_cons_succ]
            have SBA := SB.on (alloc_bel (W0.drew.alloc (.cells (cellsB zeroK).toArray 24)) (.cells (cellsB zeroK).toArray 24))
            have KBBA := KBB.alloc (.cells (cellsB zeroK).toArray 24)
            have LBBA := KBB.lt
            have KABA : Blk ((W0.drew.alloc (.cells (cellsB zeroK).toArray 24)).alloc (.cells (cellsB zeroK).toArray 24)) (W0.heap.size + 1) 24 (cellsB zeroK).toArray := by have h := Blk.new (W0.drew.alloc (.cells (cellsB zeroK).toArray 24)) 24 (cellsB zeroK).toArray; first | exact h | simpa using h
            have yBA : W0.heap.size ≤ W0.heap.size + 1 := by have h := SB.z; first | exact h | simpa using h
            refine hd_sole 7 (by kernel_rfl) (op_call 104 #[.pointer (some ⟨g, 0, none⟩), .agg (cellsB before).toArray, .int .i64 (k : Int), .int .i64 (m : Int), .slice (some ⟨b, off, none⟩) l c] rfl rfl (by go_simp) ((HC.out _ SBA.b SBA.t).mono ?_))
            rintro e vBAC ⟨rfl, htBAC, hkBAC, hbBAC⟩
            have SBAC := SBA.step htBAC hkBAC hbBAC
            have zBAC := SBAC.z
            have KBBAC := hkBAC _ _ KBBA
            have LBBAC := KBBAC.lt
            have KABAC := hkBAC _ _ KABA
            have LABAC := KABAC.lt
            refine ⟨_, rfl, HS0 _ _ SBAC, ?_⟩
            simp only [List.getElem_toArray, List.getElem_cons_succ, List.getElem_cons_zero, Act.put, List.setIfInBounds_toArray, List.set_cons_zero, List.set_cons_succ]
            refine hd_take 8 (_) rfl rfl (by kernel_rfl) (by kernel_rfl) (by kernel_rfl) (fun _ _ _ h => h) (fun w _ => by go_simp <;> rfl) (HS0 _ _ SBAC) ?_
            simp only [List.getElem_toArray, List.getElem_cons_succ, List.getElem_cons_zero, Act.put, List.setIfInBounds_toArray, List.set_cons_zero, List.set_cons_succ]
            refine hd_take 9 (_) rfl rfl (by kernel_rfl) (by kernel_rfl) (by kernel_rfl) (fun _ _ _ h => h) (fun w _ => by go_simp <;> rfl) (HS0 _ _ SBAC) ?_
            simp only [List.getElem_toArray, List.getElem_cons_succ, List.getElem_cons_zero, Act.put, List.setIfInBounds_toArray, List.set_cons_zero, List.set_cons_succ]
            refine hd_take 10 (_) rfl rfl (by kernel_rfl) (by kernel_rfl) (by kernel_rfl) (fun _ _ _ h => h) (fun w _ => by go_simp <;> rfl) (HS0 _ _ SBAC) ?_
            simp only [List.getElem_toArray, List.getElem_cons_succ, List.getElem_cons_zero, Act.put, List.setIfInBounds_toArray, List.set_cons_zero, List.set_cons_succ]
            obtain ⟨ga, hga⟩ : ∃ k, k = W0.heap.size + 1 := ⟨_, rfl⟩
            obtain ⟨gb, hgb⟩ : ∃ k, k = W0.heap.size := ⟨_, rfl⟩
            obtain ⟨W4, hW4⟩ : ∃ V : World, V = vBAC := ⟨_, rfl⟩
            have hpp : Twins w0 w W0 g (ts ++ x) ga gb W4 := by rw [hga, hgb, hW4]; exact ⟨SBAC, KABAC, KBBAC, by omega, by omega, by omega⟩
            rw [← hW4, ← hga, ← hgb]
            exact HIN ga gb W4 hpp
      · skip
        intro ga gb W4 hpp
        obtain ⟨ST, BA, BB, hne, hga, hgb⟩ := hpp
        have hSa := HS0 _ _ ST
        have hSb := range_setRow hSa (g' := ga) (by omega) (cellsB p).toArray
        refine hd_store 13 ga (cellsB p).toArray _ _ _ rfl rfl rfl (by kernel_rfl) rfl rfl BA (cellsB_size _ HPL.out) (by rw [List.size_toArray, List.size_toArray, cellsB_length, cellsB_length, HPL.out]; rfl) (all_oneCell_toArray (cells_one p)) hSb ?_
        have BB1 := BB.row_ne (g' := ga) (cs' := (cellsB p).toArray) (Ne.symm hne)
        have hSc := range_setRow hSb (g' := gb) (by omega) (cellsB q).toArray
        refine hd_store 14 gb (cellsB q).toArray _ _ _ rfl rfl rfl (by kernel_rfl) rfl rfl BB1 (cellsB_size _ HQL.out) (by rw [List.size_toArray, List.size_toArray, cellsB_length, cellsB_length, HQL.out]; rfl) (all_oneCell_toArray (cells_one q)) hSc ?_
        refine wpAnyH_done (by kernel_rfl) (NoPanic.normal ?_) _
        simp only [List.getElem_toArray, List.getElem_cons_succ, List.getElem_cons_zero, Act.put, List.setIfInBounds_toArray, List.set_cons_zero, List.set_cons_succ]
        have SF := (ST.row BA hga hz0 (cellsB p).toArray).row BB1 hgb hz0 (cellsB q).toArray
        have BAF := (BA.setRow (cellsB p).toArray).row_ne (g' := gb) (cs' := (cellsB q).toArray) hne
        have BBF := BB1.setRow (cellsB q).toArray
        generalize (W4.setRow ga (cellsB p).toArray).setRow gb (cellsB q).toArray = W5 at SF BAF BBF ⊢
        clear hSa hSb hSc ST BA BB BB1 S0
        have SF := Lib.hid SF
        go_wp2_with fail
        refine wp_region_noPanic ?_
        have SD := SF.out.on (Below.refl _ _).drew
        have BAD := BAF.drew
        have BBD := BBF.drew
        refine wp_region_held_drew (S := fun w' => w'.rangeAt ga 0 (cellsB p) ∧ w'.rangeAt gb 0 (cellsB q) ∧ w'.rangeAt b (off + l * 16) (cellsB h0)) (by kernel_rfl) ⟨BAD.range, BBD.range, HR.out _ SD.b⟩ (fun hS => ?_)
        refine hd_take 1 (_) rfl rfl (by kernel_rfl) (by kernel_rfl) (by kernel_rfl) (fun _ _ _ h => h) (fun w _ => by go_simp <;> rfl) hS ?_
        refine hd_take 3 (_) rfl rfl (by kernel_rfl) (by kernel_rfl) (by kernel_rfl) (fun _ _ _ h => h) (fun w _ => by go_simp <;> rfl) hS ?_
        refine hd_take 4 (_) rfl rfl (by kernel_rfl) (by kernel_rfl) (by kernel_rfl) (fun _ _ _ h => h) (fun w _ => by go_simp <;> rfl) hS ?_
        simp only [List.getElem_toArray, List.getElem_cons_succ, List.getElem_cons_zero, Act.put, List.setIfInBounds_toArray, List.set_cons_zero, List.set_cons_succ]
        refine hd_take 5 (_) rfl rfl (by kernel_rfl) (by kernel_rfl) (by kernel_rfl) (fun _ _ _ h => h) (fun w _ => by go_simp <;> rfl) hS ?_
        simp only [List.getElem_toArray, List.getElem_cons_succ, List.getElem_cons_zero, Act.put, List.setIfInBounds_toArray, List.set_cons_zero, List.set_cons_succ]
        refine hd_load 0 ga 0 (cellsB p) _ _ rfl rfl rfl (by kernel_rfl) (by kernel_rfl) (by kernel_rfl) (fun _ _ _ h => h) rfl (fun w hw => hw.1) under_key rfl (key_info HPL.out) hS ?_
        refine hd_load 2 gb 0 (cellsB q) _ _ rfl rfl rfl (by kernel_rfl) (by kernel_rfl) (by kernel_rfl) (fun _ _ _ h => h) rfl (fun w hw => hw.2.1) under_key rfl (key_info HQL.out) hS ?_
        refine hd_load 6 b (off + l * 16) (cellsB h0) _ _ rfl rfl rfl (by kernel_rfl) (by kernel_rfl) (by kernel_rfl) (fun _ _ _ h => h) rfl (fun w hw => hw.2.2) under_key rfl (key_info HH.out) hS ?_
        simp only [List.getElem_toArray, List.getElem_cons_succ, List.getElem_cons_zero, Act.put, List.setIfInBounds_toArray, List.set_cons_zero, List.set_cons_succ]
        refine hd_calls 7 98 #[.agg (cellsB q).toArray, .agg (cellsB h0).toArray] rfl rfl (by kernel_rfl) (by go_simp) ((HNT1.out _).mono ?_)
        rintro e u1 ⟨⟨A1, c1, rfl, ho1⟩, hb1⟩
        have SN1 := SD.on hb1
        have Pn1 := BAD.below' hb1
        have Qn1 := BBD.below' hb1
        have on1 := ho1.le_ SD.b.size
        refine ⟨_, rfl, ⟨Pn1.range, Qn1.range, HR.out _ SN1.b⟩, ?_⟩
        simp only [List.getElem_toArray, List.getElem_cons_succ, List.getElem_cons_zero, Act.put, List.setIfInBounds_toArray, List.set_cons_zero, List.set_cons_succ]
        refine hd_calls 8 95 #[.pointer (some ⟨g, 0, none⟩), .slice A1 33 c1] rfl rfl (by kernel_rfl) (by go_simp) ((HTK1.out _ _ _ SN1.t on1).mono ?_)
        rintro e x1 ⟨rfl, ht1, hk1, hc1⟩
        have SM1 := SN1.step ht1 hk1 hc1
        have Pm1 := hk1 _ _ Pn1
        have Qm1 := hk1 _ _ Qn1
        refine ⟨_, rfl, ⟨Pm1.range, Qm1.range, HR.out _ SM1.b⟩, ?_⟩
        simp only [List.getElem_toArray, List.getElem_cons_succ, List.getElem_cons_zero, Act.put, List.setIfInBounds_toArray, List.set_cons_zero, List.set_cons_succ]
        have hS9 := And.intro Pm1.range (And.intro Qm1.range (HR.out _ SM1.b))
        have E1 := SM1.k _ _ B1.out
        have E2 := SM1.k _ _ B2.out
        have hSx := And.intro (range_setRow hS9.1 (g' := w.heap.size + 1) (by omega) (cellsB p).toArray) (And.intro (range_setRow hS9.2.1 (g' := w.heap.size + 1) (by omega) (cellsB p).toArray) (range_setRow hS9.2.2 (g' := w.heap.size + 1) (by have := HBW.out; omega) (cellsB p).toArray))
        refine hd_store 9 (w.heap.size + 1) (cellsB p).toArray _ _ _ rfl rfl rfl (by kernel_rfl) rfl rfl E1 (cellsB_size _ HPL.out) (by rw [List.size_toArray, List.size_toArray, cellsB_length, cellsB_length, HPL.out]; rfl) (all_oneCell_toArray (cells_one p)) hSx ?_
        have E2' := E2.row_ne (g' := w.heap.size + 1) (cs' := (cellsB p).toArray) (by omega)
        have hSy := And.intro (range_setRow hSx.1 (g' := w.heap.size + 1 + 1) (by omega) (cellsB d1).toArray) (And.intro (range_setRow hSx.2.1 (g' := w.heap.size + 1 + 1) (by omega) (cellsB d1).toArray) (range_setRow hSx.2.2 (g' := w.heap.size + 1 + 1) (by have := HBW.out; omega) (cellsB d1).toArray))
        refine hd_store 10 (w.heap.size + 1 + 1) (cellsB d1).toArray _ _ _ rfl rfl rfl (by kernel_rfl) rfl rfl E2' (cellsB_size _ HDL1.out) (by rw [List.size_toArray, List.size_toArray, cellsB_length, cellsB_length, HDL1.out]; rfl) (all_oneCell_toArray (cells_one d1)) hSy ?_
        refine wpAnyH_done (by kernel_rfl) (NoPanic.normal ?_) _
        simp only [List.getElem_toArray, List.getElem_cons_succ, List.getElem_cons_zero, Act.put, List.setIfInBounds_toArray, List.set_cons_zero, List.set_cons_succ]
        have F1 := Lib.hid ((E1.setRow (cellsB p).toArray).row_ne (g' := w.heap.size + 1 + 1) (cs' := (cellsB d1).toArray) (by omega))
        have F2 := Lib.hid (E2'.setRow (cellsB d1).toArray)
        have FT := Lib.hid ((SM1.t.row E1 (cellsB p).toArray).row E2' (cellsB d1).toArray)
        have FK := Lib.hid ((((KeepT.of_below b0).trans SM1.k).rowAbove (g := w.heap.size + 1) (by omega) (cellsB p).toArray).rowAbove (g := w.heap.size + 1 + 1) (by omega) (cellsB d1).toArray)
        have FB := Lib.hid (below_setRow (below_setRow SM1.a (g := w.heap.size + 1) (by omega) (cellsB p).toArray) (g := w.heap.size + 1 + 1) (by omega) (cellsB d1).toArray)
        clear hSx hSy E1 E2 E2' hS hS9
        go_wp2_with fail
        refine bodyPost_ret (v := .tuple #[.agg (cellsB p).toArray, .agg (cellsB d1).toArray]) ?_ rfl ⟨rfl, by have h := FT.out; simpa only [List.append_assoc, List.cons_append, List.nil_append] using h, FK.out, FB.out⟩
        rw [results_cell2 Tryz.results104]
        simp [asAddr, Result.andThen, run_loadVar_row _ (w.heap.size + 1) _ _ _ (0, 0) _ F1.out under_key rfl (cellsB_size _ HPL.out), run_loadVar_row _ (w.heap.size + 1 + 1) _ _ _ (0, 0) _ F2.out under_key rfl (cellsB_size _ HDL1.out)]
    · skip
      have hki : ¬ (m : Int) ≤ ((splitS n : Nat) : Int) := by omega
      have hki2 : ((splitS n : Nat) : Int) < (m : Int) := by omega
      have hkn : ((splitS n : Nat) : Int) < (n : Int) := by omega
      obtain ⟨l, hl1⟩ : ∃ l, path.length = l + 1 := ⟨path.length - 1, by rw [hp, partsS_high wh h2 hne hk]; omega⟩
      rw [growS_high _ _ h2 hne hk]
      have hle := growS_le before (n - splitS n) (m - splitS n) (initK path)
      obtain ⟨hpl, hql⟩ := growS_length hl (n - splitS n) (m - splitS n) (path := initK path) (fun k hk => h.2 k (initK_mem hk))
      have HC : Hid (∀ W, Below w0.heap.size w0 W → TX w0.heap.size W g ts → Calls Tryz.prog 104 #[.pointer (some ⟨g, 0, none⟩), .agg (cellsB before).toArray, .int .i64 ((n : Int) - ((splitS n : Nat) : Int)), .int .i64 ((m : Int) - ((splitS n : Nat) : Int)), .slice A l c] W (GrowEnd w0 g ts (growS before (n - splitS n) (m - splitS n) (initK path)) W)) := fun W hW hT => by
        have hlen : l = (initK path).length := by rw [initK_length, hl1]; omega
        rw [hlen]
        rw [show (n : Int) - ((splitS n : Nat) : Int) = ((n - splitS n : Nat) : Int) from by omega, show (m : Int) - ((splitS n : Nat) : Int) = ((m - splitS n : Nat) : Int) from by omega]
        exact ih (n - splitS n) (by omega) (m - splitS n) false (initK path) A c ts W (by omega) (by omega) (by omega) (by rw [initK_length, hp, partsS_high wh h2 hne hk]; omega) h.init hW hT (by omega)
      obtain ⟨b, off, rfl, hb, hr, hhl⟩ := h.lastAt hl1
      have HR : Hid (∀ W, Below w0.heap.size w0 W → W.rangeAt b (off + l * 16) (cellsB (lastK path))) := fun W hW => range_below hr hW
      have HH := Lib.hid hhl
      have hli : (l : Int) ≤ 140737488351232 := by omega
      have hlc : l ≤ c := by omega
      have hllt : (l : Int) < (l : Int) + 1 := by omega
      have hsl := fun W => slice_keys_to W (some ⟨b, off, none⟩) (l + 1) c l hlc
      generalize growS before (n - splitS n) (m - splitS n) (initK path) = r at HC hle hpl hql ⊢
      obtain ⟨p, q, x⟩ := r
      unfold GrowEnd at HC ⊢
      dsimp only at HC hle hpl hql ⊢
      generalize lastK path = h0 at HR HH ⊢
      rw [hl1]
      generalize splitS n = k at *
      have HPL := Lib.hid hpl
      have HQL := Lib.hid hql
      have w1 : IntKind.i64.wrap ((n : Int) - (k : Int)) = (n : Int) - (k : Int) := by rw [IntKind.wrap_i64]; omega
      have w2 : IntKind.i64.wrap ((m : Int) - (k : Int)) = (m : Int) - (k : Int) := by rw [IntKind.wrap_i64]; omega
      have HNT1 : Hid (∀ W, Calls Tryz.prog 98 #[.agg (cellsB h0).toArray, .agg (cellsB p).toArray] W fun e w' => (∃ A c, e = .returned (.slice A 33 c) ∧ OB W.heap.size w' A c (nodeT h0 p)) ∧ Below W.heap.size W w') := fun W => nodeText_any h0 p W (by first | exact HPL.out | exact HQL.out | exact HH.out) (by first | exact HH.out | exact HPL.out | exact HQL.out)
      have HNL1 : Hid ((nodeT h0 p).length = 33) := by unfold Hid nodeT; simp [HPL.out, HQL.out, HH.out]
      generalize nodeT h0 p = t1 at HNT1 HNL1 ⊢
      have HTK1 : Hid (∀ X d W, TX w0.heap.size W g (ts ++ x) → OB w0.heap.size W X d t1 → Calls Tryz.prog 95 #[.pointer (some ⟨g, 0, none⟩), .slice X 33 d] W fun e w' => e = .returned (.agg (cellsB (digS t1)).toArray) ∧ TX w0.heap.size w' g ((ts ++ x) ++ [t1]) ∧ KeepT W w' ∧ Below w0.heap.size W w') := fun X d W h1 h2 => take_any _ t1 X d g W HNL1.out h1 h2 (by omega) (by simp only [List.length_append, List.length_cons, List.length_nil]; omega)
      have HDL1 : Hid ((digS t1).length = 16) := digS_length _
      generalize digS t1 = d1 at HDL1 HTK1 ⊢
      have HNT2 : Hid (∀ W, Calls Tryz.prog 98 #[.agg (cellsB h0).toArray, .agg (cellsB q).toArray] W fun e w' => (∃ A c, e = .returned (.slice A 33 c) ∧ OB W.heap.size w' A c (nodeT h0 q)) ∧ Below W.heap.size W w') := fun W => nodeText_any h0 q W (by first | exact HPL.out | exact HQL.out | exact HH.out) (by first | exact HH.out | exact HPL.out | exact HQL.out)
      have HNL2 : Hid ((nodeT h0 q).length = 33) := by unfold Hid nodeT; simp [HPL.out, HQL.out, HH.out]
      generalize nodeT h0 q = t2 at HNT2 HNL2 ⊢
      have HTK2 : Hid (∀ X d W, TX w0.heap.size W g ((ts ++ x) ++ [t1]) → OB w0.heap.size W X d t2 → Calls Tryz.prog 95 #[.pointer (some ⟨g, 0, none⟩), .slice X 33 d] W fun e w' => e = .returned (.agg (cellsB (digS t2)).toArray) ∧ TX w0.heap.size w' g (((ts ++ x) ++ [t1]) ++ [t2]) ∧ KeepT W w' ∧ Below w0.heap.size W w') := fun X d W h1 h2 => take_any _ t2 X d g W HNL2.out h1 h2 (by omega) (by simp only [List.length_append, List.length_cons, List.length_nil]; omega)
      have HDL2 : Hid ((digS t2).length = 16) := digS_length _
      generalize digS t2 = d2 at HDL2 HTK2 ⊢
      have HBW : Hid (b < w0.heap.size) := hb
      clear ih h hp hl1 hw ht hts hle hr hhl hb hl hpl hql
      go_enter Tryz.func104, Tryz.ntmps104
      go_wp2_with (go_at_call 113; rw [HZ.out]; refine (HSP.out _).mono ?_; rintro e w1 ⟨rfl, rfl⟩)
      obtain ⟨W0, hW0⟩ : ∃ W : World, W = ((w.alloc (.cells (cellsB before).toArray 24)).alloc (.cells (cellsB zeroK).toArray 24)).alloc (.cells (cellsB zeroK).toArray 24) := ⟨_, rfl⟩
      have hzz : W0.heap.size = w.heap.size + 1 + 1 + 1 := by rw [hW0]; simp
      rw [← hW0] at b0 B0 B1 B2 HTX ⊢
      clear hW0
      have hz0 : w0.heap.size ≤ W0.heap.size := by omega
      refine wp_region_noPanic ?_
      have HS0 : ∀ W t, St w0 w W0 g W t → W.rangeAt w.heap.size 0 (cellsB before) := fun W t s => (s.k _ _ B0.out).range
      have S0 : St w0 w W0 g W0.drew ts := ⟨(b0.mono hws).trans (Below.refl _ _).drew, HW.out.trans ((b0.mono hws).trans (Below.refl _ _).drew), HTX.out.below (Below.refl _ _).drew, .of_below (Below.refl _ _).drew, Nat.le_refl _⟩
      refine wp_region_held_drew (S := fun w' => w'.rangeAt w.heap.size 0 (cellsB before)) (by kernel_rfl) (HS0 _ _ S0) (fun hS => ?_)
      refine hd_take 0 (_) rfl rfl (by kernel_rfl) (by kernel_rfl) (by kernel_rfl) (fun _ _ _ h => h) (fun w _ => by go_simp <;> rfl) hS ?_
      refine hd_take 2 (_) rfl rfl (by kernel_rfl) (by kernel_rfl) (by kernel_rfl) (fun _ _ _ h => h) (fun w _ => by go_simp <;> rfl) hS ?_
      refine hd_take 3 (_) rfl rfl (by kernel_rfl) (by kernel_rfl) (by kernel_rfl) (fun _ _ _ h => h) (fun w _ => by go_simp <;> rfl) hS ?_
      refine hd_take 5 (_) rfl rfl (by kernel_rfl) (by kernel_rfl) (by kernel_rfl) (fun _ _ _ h => h) (fun w _ => by go_simp <;> rfl) hS ?_
      refine hd_take 6 (_) rfl rfl (by kernel_rfl) (by kernel_rfl) (by kernel_rfl) (fun _ _ _ h => h) (fun w _ => by go_simp <;> rfl) hS ?_
      refine hd_take 8 (_) rfl rfl (by kernel_rfl) (by kernel_rfl) (by kernel_rfl) (fun _ _ _ h => h) (fun w _ => by go_simp <;> rfl) hS ?_
      refine hd_take 9 (_) rfl rfl (by kernel_rfl) (by kernel_rfl) (by kernel_rfl) (fun _ _ _ h => h) (fun w _ => by go_simp <;> rfl) hS ?_
      simp only [List.getElem_toArray, List.getElem_cons_succ, List.getElem_cons_zero, Act.put, List.setIfInBounds_toArray, List.set_cons_zero, List.set_cons_succ]
      refine hd_take 4 (_) rfl rfl (by kernel_rfl) (by kernel_rfl) (by kernel_rfl) (fun _ _ _ h => h) (fun w _ => by go_simp <;> rfl) hS ?_
      refine hd_take 7 (_) rfl rfl (by kernel_rfl) (by kernel_rfl) (by kernel_rfl) (fun _ _ _ h => h) (fun w _ => by go_simp <;> rfl) hS ?_
      refine hd_take 10 (_) rfl rfl (by kernel_rfl) (by kernel_rfl) (by kernel_rfl) (fun _ _ _ h => h) (fun w _ => by go_simp <;> rfl) hS ?_
      simp only [List.getElem_toArray, List.getElem_cons_succ, List.getElem_cons_zero, Act.put, List.setIfInBounds_toArray, List.set_cons_zero, List.set_cons_succ]
      refine hd_load 1 w.heap.size 0 (cellsB before) _ _ rfl rfl rfl (by kernel_rfl) (by kernel_rfl) (by kernel_rfl) (fun _ _ _ h => h) rfl (fun w hw => hw) under_key rfl (key_info HK.out) hS ?_
      simp only [List.getElem_toArray, List.getElem_cons_succ, List.getElem_cons_zero, Act.put, List.setIfInBounds_toArray, List.set_cons_zero, List.set_cons_succ]
      refine' (fun (HIN : ∀ (ga gb : Nat) (W4 : World), Twins w0 w W0 g (ts ++ x) ga gb W4 → (_ : Nat → Nat → World → Prop) ga gb W4) => _) _
      rotate_left
      · skip
        refine hd_three 11 15 16 (by kernel_rfl) (op_call 104 #[.pointer (some ⟨g, 0, none⟩), .agg (cellsB before).toArray, .int .i64 ((n : Int) - (k : Int)), .int .i64 ((m : Int) - (k : Int)), .slice (some ⟨b, off, none⟩) l c] rfl rfl (by go_simp) ((HC.out _ S0.b S0.t).mono ?_)) (op_run (.pointer (some ⟨W0.heap.size, 0, none⟩)) (W0.drew.alloc (.cells (cellsB zeroK).toArray 24)) rfl rfl (by rw [← HZ.out]; go_simp) ⟨HS0 _ _ (S0.on (alloc_bel _ _)), ?_⟩) (op_run (.pointer (some ⟨W0.heap.size, 0, none⟩)) (W0.drew.alloc (.cells (cellsB zeroK).toArray 24)) rfl rfl (by rw [← HZ.out]; go_simp) ⟨HS0 _ _ (S0.on (alloc_bel _ _)), ?_⟩)
        · skip
          rintro e vC ⟨rfl, htC, hkC, hbC⟩
          have SC := S0.step htC hkC hbC
          have zC := SC.z
          refine ⟨_, rfl, HS0 _ _ SC, ?_⟩
          simp only [List.getElem_toArray, List.getElem_cons_succ, List.getElem_cons_zero, Act.put, List.setIfInBounds_toArray, List.set_cons_zero, List.set_cons_succ]
          refine hd_take 12 (_) rfl rfl (by kernel_rfl) (by kernel_rfl) (by kernel_rfl) (fun _ _ _ h => h) (fun w _ => by go_simp <;> rfl) (HS0 _ _ SC) ?_
          simp only [List.getElem_toArray, List.getElem_cons_succ, List.getElem_cons_zero, Act.put, List.setIfInBounds_toArray, List.set_cons_zero, List.set_cons_succ]
          refine hd_take 13 (_) rfl rfl (by kernel_rfl) (by kernel_rfl) (by kernel_rfl) (fun _ _ _ h => h) (fun w _ => by go_simp <;> rfl) (HS0 _ _ SC) ?_
          simp only [List.getElem_toArray, List.getElem_cons_succ, List.getElem_cons_zero, Act.put, List.setIfInBounds_toArray, List.set_cons_zero, List.set_cons_succ]
          refine hd_take 14 (_) rfl rfl (by kernel_rfl) (by kernel_rfl) (by kernel_rfl) (fun _ _ _ h => h) (fun w _ => by go_simp <;> rfl) (HS0 _ _ SC) ?_
          simp only [List.getElem_toArray, List.getElem_cons_succ, List.getElem_cons_zero, Act.put, List.setIfInBounds_toArray, List.set_cons_zero, List.set_cons_succ]
          refine hd_two 15 16 (by kernel_rfl) (op_run (.pointer (some ⟨vC.heap.size, 0, none⟩)) (vC.alloc (.cells (cellsB zeroK).toArray 24)) rfl rfl (by rw [← HZ.out]; go_simp) ⟨HS0 _ _ (SC.on (alloc_bel _ _)), ?_⟩) (op_run (.pointer (some ⟨vC.heap.size, 0, none⟩)) (vC.alloc (.cells (cellsB zeroK).toArray 24)) rfl rfl (by rw [← HZ.out]; go_simp) ⟨HS0 _ _ (SC.on (alloc_bel _ _)), ?_⟩)
          · skip
            simp only [List.getElem_toArray, List.getElem_cons_succ, List.getElem_cons_zero, Act.put, List.setIfInBounds_toArray, List.set_cons_zero, List.set_cons_succ]
            have SCA := SC.on (alloc_bel vC (.cells (cellsB zeroK).toArray 24))
            have KACA : Blk (vC.alloc (.cells (cellsB zeroK).toArray 24)) (vC.heap.size) 24 (cellsB zeroK).toArray := by have h := Blk.new vC 24 (cellsB zeroK).toArray; first | exact h | simpa using h
            have yCA : W0.heap.size ≤ vC.heap.size := by have h := SC.z; first | exact h | simpa using h
            refine hd_sole 16 (by kernel_rfl) (op_run (.pointer (some ⟨vC.heap.size + 1, 0, none⟩)) ((vC.alloc (.cells (cellsB zeroK).toArray 24)).alloc (.cells (cellsB zeroK).toArray 24)) rfl rfl (by rw [← HZ.out]; go_simp) ⟨HS0 _ _ (SCA.on (alloc_bel _ _)), ?_⟩)
            simp only [List.getElem_toArray, List.getElem_cons_succ, List.getElem_cons_zero, Act.put, List.setIfInBounds_toArray, List.set_cons_zero, List.set_cons_succ]
            have SCAB := SCA.on (alloc_bel (vC.alloc (.cells (cellsB zeroK).toArray 24)) (.cells (cellsB zeroK).toArray 24))
            have KACAB := KACA.alloc (.cells (cellsB zeroK).toArray 24)
            have LACAB := KACA.lt
            have KBCAB : Blk ((vC.alloc (.cells (cellsB zeroK).toArray 24)).alloc (.cells (cellsB zeroK).toArray 24)) (vC.heap.size + 1) 24 (cellsB zeroK).toArray := by have h := Blk.new (vC.alloc (.cells (cellsB zeroK).toArray 24)) 24 (cellsB zeroK).toArray; first | exact h | simpa using h
            have yCAB : W0.heap.size ≤ vC.heap.size + 1 := by have h := SCA.z; first | exact h | simpa using h
            obtain ⟨ga, hga⟩ : ∃ k, k = vC.heap.size := ⟨_, rfl⟩
            obtain ⟨gb, hgb⟩ : ∃ k, k = vC.heap.size + 1 := ⟨_, rfl⟩
            obtain ⟨W4, hW4⟩ : ∃ V : World, V = ((vC.alloc (.cells (cellsB zeroK).toArray 24)).alloc (.cells (cellsB zeroK).toArray 24)) := ⟨_, rfl⟩
            have hpp : Twins w0 w W0 g (ts ++ x) ga gb W4 := by rw [hga, hgb, hW4]; exact ⟨SCAB, KACAB, KBCAB, by omega, by omega, by omega⟩
            rw [← hW4, ← hgb, ← hga]
            exact HIN ga gb W4 hpp
          · skip
            simp only [List.getElem_toArray, List.getElem_cons_succ, List.getElem_cons_zero, Act.put, List.setIfInBounds_toArray, List.set_cons_zero, List.set_cons_succ]
            have SCB := SC.on (alloc_bel vC (.cells (cellsB zeroK).toArray 24))
            have KBCB : Blk (vC.alloc (.cells (cellsB zeroK).toArray 24)) (vC.heap.size) 24 (cellsB zeroK).toArray := by have h := Blk.new vC 24 (cellsB zeroK).toArray; first | exact h | simpa using h
            have yCB : W0.heap.size ≤ vC.heap.size := by have h := SC.z; first | exact h | simpa using h
            refine hd_sole 15 (by kernel_rfl) (op_run (.pointer (some ⟨vC.heap.size + 1, 0, none⟩)) ((vC.alloc (.cells (cellsB zeroK).toArray 24)).alloc (.cells (cellsB zeroK).toArray 24)) rfl rfl (by rw [← HZ.out]; go_simp) ⟨HS0 _ _ (SCB.on (alloc_bel _ _)), ?_⟩)
            simp only [List.getElem_toArray, List.getElem_cons_succ, List.getElem_cons_zero, Act.put, List.setIfInBounds_toArray, List.set_cons_zero, List.set_cons_succ]
            have SCBA := SCB.on (alloc_bel (vC.alloc (.cells (cellsB zeroK).toArray 24)) (.cells (cellsB zeroK).toArray 24))
            have KBCBA := KBCB.alloc (.cells (cellsB zeroK).toArray 24)
            have LBCBA := KBCB.lt
            have KACBA : Blk ((vC.alloc (.cells (cellsB zeroK).toArray 24)).alloc (.cells (cellsB zeroK).toArray 24)) (vC.heap.size + 1) 24 (cellsB zeroK).toArray := by have h := Blk.new (vC.alloc (.cells (cellsB zeroK).toArray 24)) 24 (cellsB zeroK).toArray; first | exact h | simpa using h
            have yCBA : W0.heap.size ≤ vC.heap.size + 1 := by have h := SCB.z; first | exact h | simpa using h
            obtain ⟨ga, hga⟩ : ∃ k, k = vC.heap.size + 1 := ⟨_, rfl⟩
            obtain ⟨gb, hgb⟩ : ∃ k, k = vC.heap.size := ⟨_, rfl⟩
            obtain ⟨W4, hW4⟩ : ∃ V : World, V = ((vC.alloc (.cells (cellsB zeroK).toArray 24)).alloc (.cells (cellsB zeroK).toArray 24)) := ⟨_, rfl⟩
            have hpp : Twins w0 w W0 g (ts ++ x) ga gb W4 := by rw [hga, hgb, hW4]; exact ⟨SCBA, KACBA, KBCBA, by omega, by omega, by omega⟩
            rw [← hW4, ← hga, ← hgb]
            exact HIN ga gb W4 hpp
        · skip
          simp only [List.getElem_toArray, List.getElem_cons_succ, List.getElem_cons_zero, Act.put, List.setIfInBounds_toArray, List.set_cons_zero, List.set_cons_succ]
          have SA := S0.on (alloc_bel W0.drew (.cells (cellsB zeroK).toArray 24))
          have KAA : Blk (W0.drew.alloc (.cells (cellsB zeroK).toArray 24)) (W0.heap.size) 24 (cellsB zeroK).toArray := by have h := Blk.new W0.drew 24 (cellsB zeroK).toArray; first | exact h | simpa using h
          have yA : W0.heap.size ≤ W0.heap.size := by have h := S0.z; first | exact h | simpa using h
          refine hd_two 11 16 (by kernel_rfl) (op_call 104 #[.pointer (some ⟨g, 0, none⟩), .agg (cellsB before).toArray, .int .i64 ((n : Int) - (k : Int)), .int .i64 ((m : Int) - (k : Int)), .slice (some ⟨b, off, none⟩) l c] rfl rfl (by go_simp) ((HC.out _ SA.b SA.t).mono ?_)) (op_run (.pointer (some ⟨W0.heap.size + 1, 0, none⟩)) ((W0.drew.alloc (.cells (cellsB zeroK).toArray 24)).alloc (.cells (cellsB zeroK).toArray 24)) rfl rfl (by rw [← HZ.out]; go_simp) ⟨HS0 _ _ (SA.on (alloc_bel _ _)), ?_⟩)
          · skip
            rintro e vAC ⟨rfl, htAC, hkAC, hbAC⟩
            have SAC := SA.step htAC hkAC hbAC
            have zAC := SAC.z
            have KAAC := hkAC _ _ KAA
            have LAAC := KAAC.lt
            refine ⟨_, rfl, HS0 _ _ SAC, ?_⟩
            simp only [List.getElem_toArray, List.getElem_cons_succ, List.getElem_cons_zero, Act.put, List.setIfInBounds_toArray, List.set_cons_zero, List.set_cons_succ]
            refine hd_take 12 (_) rfl rfl (by kernel_rfl) (by kernel_rfl) (by kernel_rfl) (fun _ _ _ h => h) (fun w _ => by go_simp <;> rfl) (HS0 _ _ SAC) ?_
            simp only [List.getElem_toArray, List.getElem_cons_succ, List.getElem_cons_zero, Act.put, List.setIfInBounds_toArray, List.set_cons_zero, List.set_cons_succ]
            refine hd_take 13 (_) rfl rfl (by kernel_rfl) (by kernel_rfl) (by kernel_rfl) (fun _ _ _ h => h) (fun w _ => by go_simp <;> rfl) (HS0 _ _ SAC) ?_
            simp only [List.getElem_toArray, List.getElem_cons_succ, List.getElem_cons_zero, Act.put, List.setIfInBounds_toArray, List.set_cons_zero, List.set_cons_succ]
            refine hd_take 14 (_) rfl rfl (by kernel_rfl) (by kernel_rfl) (by kernel_rfl) (fun _ _ _ h => h) (fun w _ => by go_simp <;> rfl) (HS0 _ _ SAC) ?_
            simp only [List.getElem_toArray, List.getElem_cons_succ, List.getElem_cons_zero, Act.put, List.setIfInBounds_toArray, List.set_cons_zero, List.set_cons_succ]
            refine hd_sole 16 (by kernel_rfl) (op_run (.pointer (some ⟨vAC.heap.size, 0, none⟩)) (vAC.alloc (.cells (cellsB zeroK).toArray 24)) rfl rfl (by rw [← HZ.out]; go_simp) ⟨HS0 _ _ (SAC.on (alloc_bel _ _)), ?_⟩)
            simp only [List.getElem_toArray, List.getElem_cons_succ, List.getElem_cons_zero, Act.put, List.setIfInBounds_toArray, List.set_cons_zero, List.set_cons_succ]
            have SACB := SAC.on (alloc_bel vAC (.cells (cellsB zeroK).toArray 24))
            have KAACB := KAAC.alloc (.cells (cellsB zeroK).toArray 24)
            have LAACB := KAAC.lt
            have KBACB : Blk (vAC.alloc (.cells (cellsB zeroK).toArray 24)) (vAC.heap.size) 24 (cellsB zeroK).toArray := by have h := Blk.new vAC 24 (cellsB zeroK).toArray; first | exact h | simpa using h
            have yACB : W0.heap.size ≤ vAC.heap.size := by have h := SAC.z; first | exact h | simpa using h
            obtain ⟨ga, hga⟩ : ∃ k, k = W0.heap.size := ⟨_, rfl⟩
            obtain ⟨gb, hgb⟩ : ∃ k, k = vAC.heap.size := ⟨_, rfl⟩
            obtain ⟨W4, hW4⟩ : ∃ V : World, V = (vAC.alloc (.cells (cellsB zeroK).toArray 24)) := ⟨_, rfl⟩
            have hpp : Twins w0 w W0 g (ts ++ x) ga gb W4 := by rw [hga, hgb, hW4]; exact ⟨SACB, KAACB, KBACB, by omega, by omega, by omega⟩
            rw [← hW4, ← hgb, ← hga]
            exact HIN ga gb W4 hpp
          · skip
            simp only [List.getElem_toArray, List.getElem_cons_succ, List.getElem_cons_zero, Act.put, List.setIfInBounds_toArray, List.set_cons_zero, List.set_cons_succ]
            have SAB := SA.on (alloc_bel (W0.drew.alloc (.cells (cellsB zeroK).toArray 24)) (.cells (cellsB zeroK).toArray 24))
            have KAAB := KAA.alloc (.cells (cellsB zeroK).toArray 24)
            have LAAB := KAA.lt
            have KBAB : Blk ((W0.drew.alloc (.cells (cellsB zeroK).toArray 24)).alloc (.cells (cellsB zeroK).toArray 24)) (W0.heap.size + 1) 24 (cellsB zeroK).toArray := by have h := Blk.new (W0.drew.alloc (.cells (cellsB zeroK).toArray 24)) 24 (cellsB zeroK).toArray; first | exact h | simpa using h
            have yAB : W0.heap.size ≤ W0.heap.size + 1 := by have h := SA.z; first | exact h | simpa using h
            refine hd_sole 11 (by kernel_rfl) (op_call 104 #[.pointer (some ⟨g, 0, none⟩), .agg (cellsB before).toArray, .int .i64 ((n : Int) - (k : Int)), .int .i64 ((m : Int) - (k : Int)), .slice (some ⟨b, off, none⟩) l c] rfl rfl (by go_simp) ((HC.out _ SAB.b SAB.t).mono ?_))
            rintro e vABC ⟨rfl, htABC, hkABC, hbABC⟩
            have SABC := SAB.step htABC hkABC hbABC
            have zABC := SABC.z
            have KAABC := hkABC _ _ KAAB
            have LAABC := KAABC.lt
            have KBABC := hkABC _ _ KBAB
            have LBABC := KBABC.lt
            refine ⟨_, rfl, HS0 _ _ SABC, ?_⟩
            simp only [List.getElem_toArray, List.getElem_cons_succ, List.getElem_cons_zero, Act.put, List.setIfInBounds_toArray, List.set_cons_zero, List.set_cons_succ]
            refine hd_take 12 (_) rfl rfl (by kernel_rfl) (by kernel_rfl) (by kernel_rfl) (fun _ _ _ h => h) (fun w _ => by go_simp <;> rfl) (HS0 _ _ SABC) ?_
            simp only [List.getElem_toArray, List.getElem_cons_succ, List.getElem_cons_zero, Act.put, List.setIfInBounds_toArray, List.set_cons_zero, List.set_cons_succ]
            refine hd_take 13 (_) rfl rfl (by kernel_rfl) (by kernel_rfl) (by kernel_rfl) (fun _ _ _ h => h) (fun w _ => by go_simp <;> rfl) (HS0 _ _ SABC) ?_
            simp only [List.getElem_toArray, List.getElem_cons_succ, List.getElem_cons_zero, Act.put, List.setIfInBounds_toArray, List.set_cons_zero, List.set_cons_succ]
            refine hd_take 14 (_) rfl rfl (by kernel_rfl) (by kernel_rfl) (by kernel_rfl) (fun _ _ _ h => h) (fun w _ => by go_simp <;> rfl) (HS0 _ _ SABC) ?_
            simp only [List.getElem_toArray, List.getElem_cons_succ, List.getElem_cons_zero, Act.put, List.setIfInBounds_toArray, List.set_cons_zero, List.set_cons_succ]
            obtain ⟨ga, hga⟩ : ∃ k, k = W0.heap.size := ⟨_, rfl⟩
            obtain ⟨gb, hgb⟩ : ∃ k, k = W0.heap.size + 1 := ⟨_, rfl⟩
            obtain ⟨W4, hW4⟩ : ∃ V : World, V = vABC := ⟨_, rfl⟩
            have hpp : Twins w0 w W0 g (ts ++ x) ga gb W4 := by rw [hga, hgb, hW4]; exact ⟨SABC, KAABC, KBABC, by omega, by omega, by omega⟩
            rw [← hW4, ← hgb, ← hga]
            exact HIN ga gb W4 hpp
        · skip
          simp only [List.getElem_toArray, List.getElem_cons_succ, List.getElem_cons_zero, Act.put, List.setIfInBounds_toArray, List.set_cons_zero, List.set_cons_succ]
          have SB := S0.on (alloc_bel W0.drew (.cells (cellsB zeroK).toArray 24))
          have KBB : Blk (W0.drew.alloc (.cells (cellsB zeroK).toArray 24)) (W0.heap.size) 24 (cellsB zeroK).toArray := by have h := Blk.new W0.drew 24 (cellsB zeroK).toArray; first | exact h | simpa using h
          have yB : W0.heap.size ≤ W0.heap.size := by have h := S0.z; first | exact h | simpa using h
          refine hd_two 11 15 (by kernel_rfl) (op_call 104 #[.pointer (some ⟨g, 0, none⟩), .agg (cellsB before).toArray, .int .i64 ((n : Int) - (k : Int)), .int .i64 ((m : Int) - (k : Int)), .slice (some ⟨b, off, none⟩) l c] rfl rfl (by go_simp) ((HC.out _ SB.b SB.t).mono ?_)) (op_run (.pointer (some ⟨W0.heap.size + 1, 0, none⟩)) ((W0.drew.alloc (.cells (cellsB zeroK).toArray 24)).alloc (.cells (cellsB zeroK).toArray 24)) rfl rfl (by rw [← HZ.out]; go_simp) ⟨HS0 _ _ (SB.on (alloc_bel _ _)), ?_⟩)
          · skip
            rintro e vBC ⟨rfl, htBC, hkBC, hbBC⟩
            have SBC := SB.step htBC hkBC hbBC
            have zBC := SBC.z
            have KBBC := hkBC _ _ KBB
            have LBBC := KBBC.lt
            refine ⟨_, rfl, HS0 _ _ SBC, ?_⟩
            simp only [List.getElem_toArray, List.getElem_cons_succ, List.getElem_cons_zero, Act.put, List.setIfInBounds_toArray, List.set_cons_zero, List.set_cons_succ]
            refine hd_take 12 (_) rfl rfl (by kernel_rfl) (by kernel_rfl) (by kernel_rfl) (fun _ _ _ h => h) (fun w _ => by go_simp <;> rfl) (HS0 _ _ SBC) ?_
            simp only [List.getElem_toArray, List.getElem_cons_succ, List.getElem_cons_zero, Act.put, List.setIfInBounds_toArray, List.set_cons_zero, List.set_cons_succ]
            refine hd_take 13 (_) rfl rfl (by kernel_rfl) (by kernel_rfl) (by kernel_rfl) (fun _ _ _ h => h) (fun w _ => by go_simp <;> rfl) (HS0 _ _ SBC) ?_
            simp only [List.getElem_toArray, List.getElem_cons_succ, List.getElem_cons_zero, Act.put, List.setIfInBounds_toArray, List.set_cons_zero, List.set_cons_succ]
            refine hd_take 14 (_) rfl rfl (by kernel_rfl) (by kernel_rfl) (by kernel_rfl) (fun _ _ _ h => h) (fun w _ => by go_simp <;> rfl) (HS0 _ _ SBC) ?_
            simp only [List.getElem_toArray, List.getElem_cons_succ, List.getElem_cons_zero, Act.put, List.setIfInBounds_toArray, List.set_cons_zero, List.set_cons_succ]
            refine hd_sole 15 (by kernel_rfl) (op_run (.pointer (some ⟨vBC.heap.size, 0, none⟩)) (vBC.alloc (.cells (cellsB zeroK).toArray 24)) rfl rfl (by rw [← HZ.out]; go_simp) ⟨HS0 _ _ (SBC.on (alloc_bel _ _)), ?_⟩)
            simp only [List.getElem_toArray, List.getElem_cons_succ, List.getElem_cons_zero, Act.put, List.setIfInBounds_toArray, List.set_cons_zero, List.set_cons_succ]
            have SBCA := SBC.on (alloc_bel vBC (.cells (cellsB zeroK).toArray 24))
            have KBBCA := KBBC.alloc (.cells (cellsB zeroK).toArray 24)
            have LBBCA := KBBC.lt
            have KABCA : Blk (vBC.alloc (.cells (cellsB zeroK).toArray 24)) (vBC.heap.size) 24 (cellsB zeroK).toArray := by have h := Blk.new vBC 24 (cellsB zeroK).toArray; first | exact h | simpa using h
            have yBCA : W0.heap.size ≤ vBC.heap.size := by have h := SBC.z; first | exact h | simpa using h
            obtain ⟨ga, hga⟩ : ∃ k, k = vBC.heap.size := ⟨_, rfl⟩
            obtain ⟨gb, hgb⟩ : ∃ k, k = W0.heap.size := ⟨_, rfl⟩
            obtain ⟨W4, hW4⟩ : ∃ V : World, V = (vBC.alloc (.cells (cellsB zeroK).toArray 24)) := ⟨_, rfl⟩
            have hpp : Twins w0 w W0 g (ts ++ x) ga gb W4 := by rw [hga, hgb, hW4]; exact ⟨SBCA, KABCA, KBBCA, by omega, by omega, by omega⟩
            rw [← hW4, ← hga, ← hgb]
            exact HIN ga gb W4 hpp
          · skip
            simp only [List.getElem_toArray, List.getElem_cons_succ, List.getElem_cons_zero, Act.put, List.setIfInBounds_toArray, List.set_cons_zero, List.set_cons_succ]
            have SBA := SB.on (alloc_bel (W0.drew.alloc (.cells (cellsB zeroK).toArray 24)) (.cells (cellsB zeroK).toArray 24))
            have KBBA := KBB.alloc (.cells (cellsB zeroK).toArray 24)
            have LBBA := KBB.lt
            have KABA : Blk ((W0.drew.alloc (.cells (cellsB zeroK).toArray 24)).alloc (.cells (cellsB zeroK).toArray 24)) (W0.heap.size + 1) 24 (cellsB zeroK).toArray := by have h := Blk.new (W0.drew.alloc (.cells (cellsB zeroK).toArray 24)) 24 (cellsB zeroK).toArray; first | exact h | simpa using h
            have yBA : W0.heap.size ≤ W0.heap.size + 1 := by have h := SB.z; first | exact h | simpa using h
            refine hd_sole 11 (by kernel_rfl) (op_call 104 #[.pointer (some ⟨g, 0, none⟩), .agg (cellsB before).toArray, .int .i64 ((n : Int) - (k : Int)), .int .i64 ((m : Int) - (k : Int)), .slice (some ⟨b, off, none⟩) l c] rfl rfl (by go_simp) ((HC.out _ SBA.b SBA.t).mono ?_))
            rintro e vBAC ⟨rfl, htBAC, hkBAC, hbBAC⟩
            have SBAC := SBA.step htBAC hkBAC hbBAC
            have zBAC := SBAC.z
            have KBBAC := hkBAC _ _ KBBA
            have LBBAC := KBBAC.lt
            have KABAC := hkBAC _ _ KABA
            have LABAC := KABAC.lt
            refine ⟨_, rfl, HS0 _ _ SBAC, ?_⟩
            simp only [List.getElem_toArray, List.getElem_cons_succ, List.getElem_cons_zero, Act.put, List.setIfInBounds_toArray, List.set_cons_zero, List.set_cons_succ]
            refine hd_take 12 (_) rfl rfl (by kernel_rfl) (by kernel_rfl) (by kernel_rfl) (fun _ _ _ h => h) (fun w _ => by go_simp <;> rfl) (HS0 _ _ SBAC) ?_
            simp only [List.getElem_toArray, List.getElem_cons_succ, List.getElem_cons_zero, Act.put, List.setIfInBounds_toArray, List.set_cons_zero, List.set_cons_succ]
            refine hd_take 13 (_) rfl rfl (by kernel_rfl) (by kernel_rfl) (by kernel_rfl) (fun _ _ _ h => h) (fun w _ => by go_simp <;> rfl) (HS0 _ _ SBAC) ?_
            simp only [List.getElem_toArray, List.getElem_cons_succ, List.getElem_cons_zero, Act.put, List.setIfInBounds_toArray, List.set_cons_zero, List.set_cons_succ]
            refine hd_take 14 (_) rfl rfl (by kernel_rfl) (by kernel_rfl) (by kernel_rfl) (fun _ _ _ h => h) (fun w _ => by go_simp <;> rfl) (HS0 _ _ SBAC) ?_
            simp only [List.getElem_toArray, List.getElem_cons_succ, List.getElem_cons_zero, Act.put, List.setIfInBounds_toArray, List.set_cons_zero, List.set_cons_succ]
            obtain ⟨ga, hga⟩ : ∃ k, k = W0.heap.size + 1 := ⟨_, rfl⟩
            obtain ⟨gb, hgb⟩ : ∃ k, k = W0.heap.size := ⟨_, rfl⟩
            obtain ⟨W4, hW4⟩ : ∃ V : World, V = vBAC := ⟨_, rfl⟩
            have hpp : Twins w0 w W0 g (ts ++ x) ga gb W4 := by rw [hga, hgb, hW4]; exact ⟨SBAC, KABAC, KBBAC, by omega, by omega, by omega⟩
            rw [← hW4, ← hga, ← hgb]
            exact HIN ga gb W4 hpp
      · skip
        intro ga gb W4 hpp
        obtain ⟨ST, BA, BB, hne, hga, hgb⟩ := hpp
        have hSa := HS0 _ _ ST
        have hSb := range_setRow hSa (g' := ga) (by omega) (cellsB p).toArray
        refine hd_store 17 ga (cellsB p).toArray _ _ _ rfl rfl rfl (by kernel_rfl) rfl rfl BA (cellsB_size _ HPL.out) (by rw [List.size_toArray, List.size_toArray, cellsB_length, cellsB_length, HPL.out]; rfl) (all_oneCell_toArray (cells_one p)) hSb ?_
        have BB1 := BB.row_ne (g' := ga) (cs' := (cellsB p).toArray) (Ne.symm hne)
        have hSc := range_setRow hSb (g' := gb) (by omega) (cellsB q).toArray
        refine hd_store 18 gb (cellsB q).toArray _ _ _ rfl rfl rfl (by kernel_rfl) rfl rfl BB1 (cellsB_size _ HQL.out) (by rw [List.size_toArray, List.size_toArray, cellsB_length, cellsB_length, HQL.out]; rfl) (all_oneCell_toArray (cells_one q)) hSc ?_
        refine wpAnyH_done (by kernel_rfl) (NoPanic.normal ?_) _
        simp only [List.getElem_toArray, List.getElem_cons_succ, List.getElem_cons_zero, Act.put, List.setIfInBounds_toArray, List.set_cons_zero, List.set_cons_succ]
        have SF := (ST.row BA hga hz0 (cellsB p).toArray).row BB1 hgb hz0 (cellsB q).toArray
        have BAF := (BA.setRow (cellsB p).toArray).row_ne (g' := gb) (cs' := (cellsB q).toArray) hne
        have BBF := BB1.setRow (cellsB q).toArray
        generalize (W4.setRow ga (cellsB p).toArray).setRow gb (cellsB q).toArray = W5 at SF BAF BBF ⊢
        clear hSa hSb hSc ST BA BB BB1 S0
        have SF := Lib.hid SF
        go_wp2_with fail
        refine wp_region_noPanic ?_
        have SD := SF.out.on (Below.refl _ _).drew
        have BAD := BAF.drew
        have BBD := BBF.drew
        refine wp_region_held_drew (S := fun w' => w'.rangeAt b (off + l * 16) (cellsB h0)) (by kernel_rfl) (HR.out _ SD.b) (fun hS => ?_)
        refine hd_take 0 (_) rfl rfl (by kernel_rfl) (by kernel_rfl) (by kernel_rfl) (fun _ _ _ h => h) (fun w _ => by go_simp <;> rfl) hS ?_
        refine hd_take 1 (_) rfl rfl (by kernel_rfl) (by kernel_rfl) (by kernel_rfl) (fun _ _ _ h => h) (fun w _ => by go_simp <;> rfl) hS ?_
        refine hd_take 2 (_) rfl rfl (by kernel_rfl) (by kernel_rfl) (by kernel_rfl) (fun _ _ _ h => h) (fun w _ => by go_simp <;> rfl) hS ?_
        simp only [List.getElem_toArray, List.getElem_cons_succ, List.getElem_cons_zero, Act.put, List.setIfInBounds_toArray, List.set_cons_zero, List.set_cons_succ]
        refine hd_take 3 (_) rfl rfl (by kernel_rfl) (by kernel_rfl) (by kernel_rfl) (fun _ _ _ h => h) (fun w _ => by go_simp <;> rfl) hS ?_
        simp only [List.getElem_toArray, List.getElem_cons_succ, List.getElem_cons_zero, Act.put, List.setIfInBounds_toArray, List.set_cons_zero, List.set_cons_succ]
        refine hd_load 4 b (off + l * 16) (cellsB h0) _ _ rfl rfl rfl (by kernel_rfl) (by kernel_rfl) (by kernel_rfl) (fun _ _ _ h => h) rfl (fun w hw => hw) under_key rfl (key_info HH.out) hS ?_
        refine hd_sole 5 (by kernel_rfl) (op_load_mid 5 ga 0 (cellsB p) 24 (.tmp 16) rfl rfl rfl rfl BAD.range under_key rfl (info16 ((cellsB_length p).trans HPL.out)) ⟨hS, ?_⟩)
        simp only [List.getElem_toArray, List.getElem_cons_succ, List.getElem_cons_zero, Act.put, List.setIfInBounds_toArray, List.set_cons_zero, List.set_cons_succ]
        refine hd_calls 6 98 #[.agg (cellsB h0).toArray, .agg (cellsB p).toArray] rfl rfl (by kernel_rfl) (by go_simp) ((HNT1.out _).mono ?_)
        rintro e u1 ⟨⟨A1, c1, rfl, ho1⟩, hb1⟩
        have SN1 := SD.on hb1
        have Pn1 := BAD.below' hb1
        have Qn1 := BBD.below' hb1
        have on1 := ho1.le_ SD.b.size
        refine ⟨_, rfl, HR.out _ SN1.b, ?_⟩
        simp only [List.getElem_toArray, List.getElem_cons_succ, List.getElem_cons_zero, Act.put, List.setIfInBounds_toArray, List.set_cons_zero, List.set_cons_succ]
        refine hd_calls 7 95 #[.pointer (some ⟨g, 0, none⟩), .slice A1 33 c1] rfl rfl (by kernel_rfl) (by go_simp) ((HTK1.out _ _ _ SN1.t on1).mono ?_)
        rintro e x1 ⟨rfl, ht1, hk1, hc1⟩
        have SM1 := SN1.step ht1 hk1 hc1
        have Pm1 := hk1 _ _ Pn1
        have Qm1 := hk1 _ _ Qn1
        refine ⟨_, rfl, HR.out _ SM1.b, ?_⟩
        simp only [List.getElem_toArray, List.getElem_cons_succ, List.getElem_cons_zero, Act.put, List.setIfInBounds_toArray, List.set_cons_zero, List.set_cons_succ]
        have hS8 := range_setRow (HR.out _ SM1.b) (g' := ga) (by have := HBW.out; omega) (cellsB d1).toArray
        refine hd_store 8 ga (cellsB d1).toArray _ _ _ rfl rfl rfl (by kernel_rfl) rfl rfl Pm1 (cellsB_size _ HDL1.out) (by rw [List.size_toArray, List.size_toArray, cellsB_length, cellsB_length, HDL1.out, HPL.out]) (all_oneCell_toArray (cells_one d1)) hS8 ?_
        refine wpAnyH_done (by kernel_rfl) (NoPanic.normal ?_) _
        simp only [List.getElem_toArray, List.getElem_cons_succ, List.getElem_cons_zero, Act.put, List.setIfInBounds_toArray, List.set_cons_zero, List.set_cons_succ]
        have SG := Lib.hid (SM1.row Pm1 hga hz0 (cellsB d1).toArray)
        have BAG := Pm1.setRow (cellsB d1).toArray
        have BBG := Qm1.row_ne (g' := ga) (cs' := (cellsB d1).toArray) (Ne.symm hne)
        generalize x1.setRow ga (cellsB d1).toArray = W6 at SG BAG BBG ⊢
        clear hS hS8
        go_wp2_with fail
        refine wp_region_noPanic ?_
        have SD2 := SG.out.on (Below.refl _ _).drew
        have BAD2 := BAG.drew
        have BBD2 := BBG.drew
        refine wp_region_held_drew (S := fun w' => w'.rangeAt ga 0 (cellsB d1) ∧ w'.rangeAt gb 0 (cellsB q) ∧ w'.rangeAt b (off + l * 16) (cellsB h0)) (by kernel_rfl) ⟨BAD2.range, BBD2.range, HR.out _ SD2.b⟩ (fun hS2 => ?_)
        refine hd_take 1 (_) rfl rfl (by kernel_rfl) (by kernel_rfl) (by kernel_rfl) (fun _ _ _ h => h) (fun w _ => by go_simp <;> rfl) hS2 ?_
        refine hd_take 2 (_) rfl rfl (by kernel_rfl) (by kernel_rfl) (by kernel_rfl) (fun _ _ _ h => h) (fun w _ => by go_simp <;> rfl) hS2 ?_
        refine hd_take 3 (_) rfl rfl (by kernel_rfl) (by kernel_rfl) (by kernel_rfl) (fun _ _ _ h => h) (fun w _ => by go_simp <;> rfl) hS2 ?_
        simp only [List.getElem_toArray, List.getElem_cons_succ, List.getElem_cons_zero, Act.put, List.setIfInBounds_toArray, List.set_cons_zero, List.set_cons_succ]
        refine hd_take 4 (_) rfl rfl (by kernel_rfl) (by kernel_rfl) (by kernel_rfl) (fun _ _ _ h => h) (fun w _ => by go_simp <;> rfl) hS2 ?_
        simp only [List.getElem_toArray, List.getElem_cons_succ, List.getElem_cons_zero, Act.put, List.setIfInBounds_toArray, List.set_cons_zero, List.set_cons_succ]
        refine hd_load 0 ga 0 (cellsB d1) _ _ rfl rfl rfl (by kernel_rfl) (by kernel_rfl) (by kernel_rfl) (fun _ _ _ h => h) rfl (fun w hw => hw.1) under_key rfl (key_info HDL1.out) hS2 ?_
        refine hd_load 6 gb 0 (cellsB q) _ _ rfl rfl rfl (by kernel_rfl) (by kernel_rfl) (by kernel_rfl) (fun _ _ _ h => h) rfl (fun w hw => hw.2.1) under_key rfl (key_info HQL.out) hS2 ?_
        refine hd_load 5 b (off + l * 16) (cellsB h0) _ _ rfl rfl rfl (by kernel_rfl) (by kernel_rfl) (by kernel_rfl) (fun _ _ _ h => h) rfl (fun w hw => hw.2.2) under_key rfl (key_info HH.out) hS2 ?_
        simp only [List.getElem_toArray, List.getElem_cons_succ, List.getElem_cons_zero, Act.put, List.setIfInBounds_toArray, List.set_cons_zero, List.set_cons_succ]
        refine hd_calls 7 98 #[.agg (cellsB h0).toArray, .agg (cellsB q).toArray] rfl rfl (by kernel_rfl) (by go_simp) ((HNT2.out _).mono ?_)
        rintro e u2 ⟨⟨A2, c2, rfl, ho2⟩, hb2⟩
        have SN2 := SD2.on hb2
        have Pn2 := BAD2.below' hb2
        have Qn2 := BBD2.below' hb2
        have on2 := ho2.le_ SD2.b.size
        refine ⟨_, rfl, ⟨Pn2.range, Qn2.range, HR.out _ SN2.b⟩, ?_⟩
        simp only [List.getElem_toArray, List.getElem_cons_succ, List.getElem_cons_zero, Act.put, List.setIfInBounds_toArray, List.set_cons_zero, List.set_cons_succ]
        refine hd_calls 8 95 #[.pointer (some ⟨g, 0, none⟩), .slice A2 33 c2] rfl rfl (by kernel_rfl) (by go_simp) ((HTK2.out _ _ _ SN2.t on2).mono ?_)
        rintro e x2 ⟨rfl, ht2, hk2, hc2⟩
        have SM2 := SN2.step ht2 hk2 hc2
        have Pm2 := hk2 _ _ Pn2
        have Qm2 := hk2 _ _ Qn2
        refine ⟨_, rfl, ⟨Pm2.range, Qm2.range, HR.out _ SM2.b⟩, ?_⟩
        simp only [List.getElem_toArray, List.getElem_cons_succ, List.getElem_cons_zero, Act.put, List.setIfInBounds_toArray, List.set_cons_zero, List.set_cons_succ]
        have hS9 := And.intro Pm2.range (And.intro Qm2.range (HR.out _ SM2.b))
        have E1 := SM2.k _ _ B1.out
        have E2 := SM2.k _ _ B2.out
        have hSx := And.intro (range_setRow hS9.1 (g' := w.heap.size + 1) (by omega) (cellsB d1).toArray) (And.intro (range_setRow hS9.2.1 (g' := w.heap.size + 1) (by omega) (cellsB d1).toArray) (range_setRow hS9.2.2 (g' := w.heap.size + 1) (by have := HBW.out; omega) (cellsB d1).toArray))
        refine hd_store 9 (w.heap.size + 1) (cellsB d1).toArray _ _ _ rfl rfl rfl (by kernel_rfl) rfl rfl E1 (cellsB_size _ HDL1.out) (by rw [List.size_toArray, List.size_toArray, cellsB_length, cellsB_length, HDL1.out]; rfl) (all_oneCell_toArray (cells_one d1)) hSx ?_
        have E2' := E2.row_ne (g' := w.heap.size + 1) (cs' := (cellsB d1).toArray) (by omega)
        have hSy := And.intro (range_setRow hSx.1 (g' := w.heap.size + 1 + 1) (by omega) (cellsB d2).toArray) (And.intro (range_setRow hSx.2.1 (g' := w.heap.size + 1 + 1) (by omega) (cellsB d2).toArray) (range_setRow hSx.2.2 (g' := w.heap.size + 1 + 1) (by have := HBW.out; omega) (cellsB d2).toArray))
        refine hd_store 10 (w.heap.size + 1 + 1) (cellsB d2).toArray _ _ _ rfl rfl rfl (by kernel_rfl) rfl rfl E2' (cellsB_size _ HDL2.out) (by rw [List.size_toArray, List.size_toArray, cellsB_length, cellsB_length, HDL2.out]; rfl) (all_oneCell_toArray (cells_one d2)) hSy ?_
        refine wpAnyH_done (by kernel_rfl) (NoPanic.normal ?_) _
        simp only [List.getElem_toArray, List.getElem_cons_succ, List.getElem_cons_zero, Act.put, List.setIfInBounds_toArray, List.set_cons_zero, List.set_cons_succ]
        have F1 := Lib.hid ((E1.setRow (cellsB d1).toArray).row_ne (g' := w.heap.size + 1 + 1) (cs' := (cellsB d2).toArray) (by omega))
        have F2 := Lib.hid (E2'.setRow (cellsB d2).toArray)
        have FT := Lib.hid ((SM2.t.row E1 (cellsB d1).toArray).row E2' (cellsB d2).toArray)
        have FK := Lib.hid ((((KeepT.of_below b0).trans SM2.k).rowAbove (g := w.heap.size + 1) (by omega) (cellsB d1).toArray).rowAbove (g := w.heap.size + 1 + 1) (by omega) (cellsB d2).toArray)
        have FB := Lib.hid (below_setRow (below_setRow SM2.a (g := w.heap.size + 1) (by omega) (cellsB d1).toArray) (g := w.heap.size + 1 + 1) (by omega) (cellsB d2).toArray)
        clear hSx hSy E1 E2 E2' hS2 hS9
        go_wp2_with fail
        refine bodyPost_ret (v := .tuple #[.agg (cellsB d1).toArray, .agg (cellsB d2).toArray]) ?_ rfl ⟨rfl, by have h := FT.out; simpa only [List.append_assoc, List.cons_append, List.nil_append] using h, FK.out, FB.out⟩
        rw [results_cell2 Tryz.results104]
        simp [asAddr, Result.andThen, run_loadVar_row _ (w.heap.size + 1) _ _ _ (0, 0) _ F1.out under_key rfl (cellsB_size _ HDL1.out), run_loadVar_row _ (w.heap.size + 1 + 1) _ _ _ (0, 0) _ F2.out under_key rfl (cellsB_size _ HDL2.out)]
end Go.Proofs.YtinpiodfpnbllaaGreatDoor

/- The root that a path gives: the reference's. -/
namespace Go.Proofs.YtinpiodfpnbllaaGreatDoor
open Go.RowKit
set_option linter.unusedVariables false
set_option linter.unusedSimpArgs false
attribute [local go_sem] run_storeCells_key run_storeCells_new

theorem TO.row {B : Nat} {w : World} {A : Option Addr} {c : Nat} {rs : List BRow} {ts : List (List UInt8)} (h : TO B w A c rs ts) {g : Nat} {cs : Array Value} (hb : Blk w g 24 cs) (cs' : Array Value) : TO B (w.setRow g cs') A c rs ts :=
  ⟨h.1, own_row_apart h.2.1 hb (by decide) cs', fun r hr => own_row_apart (h.2.2 r hr) hb (by decide) cs'⟩
theorem TO.snoc {B : Nat} {w w' : World} {A A' : Option Addr} {c c' : Nat} {rs : List BRow} {ts : List (List UInt8)} (h : TO B w A c rs ts) {X : Option Addr} {d : Nat} {t : List UInt8} (ho : OB B w X d t) (h' : RO B w' A' c' (rs ++ [⟨X, d, t⟩])) (hg : w.grownBy w' (Value.ownBlock (.slice A rs.length c))) : TO B w' A' c' (rs ++ [⟨X, d, t⟩]) (ts ++ [t]) :=
  ⟨by rw [List.map_append, h.1]; rfl, h', fun r hr => by
    rcases List.mem_append.1 hr with hr | hr
    · exact own_kept (h.2.2 r hr) h.2.1 (by decide) hg
    · rw [List.mem_singleton.1 hr]; exact own_kept ho h.2.1 (by decide) hg⟩

end Go.Proofs.YtinpiodfpnbllaaGreatDoor

/- The two roots that a growth gives: the reference's. -/
namespace Go.Proofs.YtinpiodfpnbllaaGreatDoor
open Go.RowKit
set_option linter.unusedVariables false
set_option linter.unusedSimpArgs false
attribute [local go_sem] run_storeCells_key run_storeCells_new

theorem results_cell2t {fn : Func} {p u v : Tmp} {ty ty' : TypeId} (h : fn.results = #[.cell p ty, .cell u ty', .tmp v]) (tmps : Array Value) (P : Program) (w : World) :
    (results fn tmps).run P w =
      ((asAddr (tmps.getD p undef)).run P w).andThen fun a w1 => ((loadVar ty a).run P w1).andThen fun x w2 => ((asAddr (tmps.getD u undef)).run P w2).andThen fun a' w3 => ((loadVar ty' a').run P w3).andThen fun y w4 => .ok (.tuple #[x, y, tmps.getD v undef]) w4 := by
  simp only [results, h]
  simp [Sem.run_bind, Result.andThen]
theorem wpList_append_rows (w : World) {ops : Array Oper} {rest : List Oper} {o : Oper} {a : Act} {Q : Exit → Act → World → Prop} (hgd : o.guard = none) (s x : Operand)
    (ho : o.op = .call { callee := .builtin .append, args := #[s, x], argTypes := #[71, 71] })
    (B : Nat) (A : Option Addr) (n c : Nat) (rs : List BRow) (hn : rs.length = n) (hs : a.eval s = .slice A n c) (hown : RO B w A c rs)
    (X : Option Addr) (m d : Nat) (news : List BRow) (hm : news.length = m) (hx : a.eval x = .slice X m d) (hsrc : Src w 1 X m (news.map BRow.v))
    (hlen : n + m ≤ 1000000) (hB : B ≤ w.heap.size)
    (h : ∀ A' c' w', RO B w' A' c' (rs ++ news) → Below B w w' → w.grownBy w' (Value.ownBlock (.slice A n c)) → wpList Tryz.prog ops Q rest (a.put o.dst (.slice A' (n + m) c')) w') : wpList Tryz.prog ops Q (o :: rest) a w := by
  obtain ⟨i0, hi, hz0, hz1, hz2⟩ := info_parts rows_info
  subst hn hm
  refine wpList_append_src w hgd s x 71 ho B 22 i0 (.slice none 0 0) 1 24 Tryz.underlying71 hi hz0 hz1 hz2 rfl (by omega) A rs.length c (rs.map BRow.v) hs hown X news.length d (news.map BRow.v) hx hsrc (by intro u hu; obtain ⟨r, _, rfl⟩ := List.mem_map.1 hu; rfl)
    (by simp only [maxLen]; omega) (by omega) hB ?_
  intro A' c' w' h1 h2 h3
  refine h A' c' w' ?_ (grown_below (Below.refl _ _) hown h2 hB (Nat.le_refl _)) h2
  unfold RO
  rw [List.map_append, List.length_append]
  exact h1
theorem TO.two {B : Nat} {w w' : World} {A A' : Option Addr} {c c' : Nat} {rs : List BRow} {ts : List (List UInt8)} (h : TO B w A c rs ts) {X Y : Option Addr} {d e : Nat} {s t : List UInt8} (hx : OB B w X d s) (hy : OB B w Y e t) (h' : RO B w' A' c' (rs ++ [⟨X, d, s⟩, ⟨Y, e, t⟩])) (hg : w.grownBy w' (Value.ownBlock (.slice A rs.length c))) : TO B w' A' c' (rs ++ [⟨X, d, s⟩, ⟨Y, e, t⟩]) (ts ++ [s, t]) :=
  ⟨by rw [List.map_append, h.1]; rfl, h', fun r hr => by
    rcases List.mem_append.1 hr with hr | hr
    · exact own_kept (h.2.2 r hr) h.2.1 (by decide) hg
    · rcases List.mem_cons.1 hr with rfl | hr
      · exact own_kept hx h.2.1 (by decide) hg
      · rw [List.mem_singleton.1 hr]; exact own_kept hy h.2.1 (by decide) hg⟩
theorem src_two (w : World) (v v' : Value) (t : TypeId) : Src (w.alloc (.cells #[v, v'] t)) 1 (some ⟨w.heap.size, 0, none⟩) 2 [v, v'] := by
  refine ⟨rfl, .inr ⟨_, rfl, fun j u hu => ?_⟩⟩
  rw [Addr.add_lit, Nat.zero_add, (Blk.new w t #[v, v']).cell j]
  simpa using hu
def GrownEnd (r : List UInt8 × List UInt8 × List (List UInt8)) (w : World) (e : Ending) (w' : World) : Prop :=
  (∃ X x rs, e = .returned (.tuple #[.agg (cellsB r.1).toArray, .agg (cellsB r.2.1).toArray, .slice X rs.length x]) ∧ TO w.heap.size w' X x rs r.2.2) ∧ Below w.heap.size w w'

theorem RO_nil (B : Nat) (w : World) : RO B w none 0 [] := RO.nil B w

end Go.Proofs.YtinpiodfpnbllaaGreatDoor

/- The two roots that a growth gives: the reference's, with its recursion. -/
namespace Go.Proofs.YtinpiodfpnbllaaGreatDoor
open Go.RowKit
set_option linter.unusedVariables false
set_option linter.unusedSimpArgs false
attribute [local go_sem] run_storeCells_key run_storeCells_new

theorem src_below {w w' : World} {s n : Nat} {A : Option Addr} {xs : List Value} (h : Src w s A n xs) (hA : ∀ a, A = some a → a.block < w.heap.size) (hb : Below w.heap.size w w') : Src w' s A n xs :=
  ⟨h.1, h.2.imp id fun ⟨ad, e, hc⟩ => ⟨ad, e, fun j u hu => (hb.cell (p := ad.add j) (by have := hA ad e; unfold Addr.add; split <;> exact this)).trans (hc j u hu)⟩⟩

end Go.Proofs.YtinpiodfpnbllaaGreatDoor

/- What a proof gives: the reference's Verify and PathTexts. -/
namespace Go.Proofs.YtinpiodfpnbllaaGreatDoor
open Go.RowKit
set_option linter.unusedVariables false
set_option linter.unusedSimpArgs false
attribute [local go_sem] run_storeCells_key run_storeCells_new equalIn_keys

theorem lastK_short {p : List (List UInt8)} (h : ∀ k ∈ p, k.length = 16) : (lastK p).length ≤ 16 := by
  rcases Nat.eq_zero_or_pos p.length with h0 | h0
  · rw [List.eq_nil_of_length_eq_zero h0]; simp [lastK]
  · rw [h _ (lastK_mem h0)]; omega
theorem climbS_short (leaf : List UInt8) (hl : leaf.length = 16) : ∀ (n i : Nat) (path : List (List UInt8)), (∀ k ∈ path, k.length = 16) → ∀ t ∈ (climbS leaf n i path).2, t.length ≤ 1000 := by
  intro n
  induction n using Nat.strongRecOn with
  | _ n ih =>
    intro i path hp t ht
    have hlast := lastK_short hp
    have hin : ∀ k ∈ initK path, k.length = 16 := fun k hk => hp k (initK_mem hk)
    rcases Nat.lt_or_ge n 2 with h2 | h2
    · rw [climbS_one _ (by omega), List.mem_singleton] at ht
      subst ht
      simp [leafT, hl]
    have s1 := splitS_lt h2
    have s2 := splitS_pos n
    by_cases hi : i < splitS n
    · rw [climbS_low _ _ h2 hi] at ht
      rcases List.mem_append.1 ht with ht | ht
      · exact ih (splitS n) s1 i _ hin t ht
      · rw [List.mem_singleton.1 ht]
        have := climbS_length leaf (splitS n) i (initK path)
        simp only [nodeT, List.length_cons, List.length_append]; omega
    · rw [climbS_high _ _ h2 hi] at ht
      rcases List.mem_append.1 ht with ht | ht
      · exact ih (n - splitS n) (by omega) _ _ hin t ht
      · rw [List.mem_singleton.1 ht]
        have := climbS_length leaf (n - splitS n) (i - splitS n) (initK path)
        simp only [nodeT, List.length_cons, List.length_append]; omega

theorem proof_info (a b : Int) (A : Option Addr) (m c : Nat) : (Tryz.prog.info? 27).map (·.size) = some ([Value.int .i64 a, .int .i64 b, .slice A m c]).length := by
  rw [show (Tryz.prog.info? 27).map (·.size) = some 3 from by kernel_rfl]; rfl

end Go.Proofs.YtinpiodfpnbllaaGreatDoor
