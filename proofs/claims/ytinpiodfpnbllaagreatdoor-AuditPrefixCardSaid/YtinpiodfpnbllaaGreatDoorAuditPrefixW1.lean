/-
  Lemmas and contracts, joined.
-/
import Derived.Test.YtinpiodfpnbllaaGreatDoorAuG2
import Derived.Test.YtinpiodfpnbllaaGreatDoorAuG1
import Derived.Test.YtinpiodfpnbllaaGreatDoorAuB2
import Derived.Test.YtinpiodfpnbllaaGreatDoorAuB1
import Derived.Test.YtinpiodfpnbllaaGreatDoorAuE1
import Derived.Test.YtinpiodfpnbllaaGreatDoorAuK1
set_option linter.unusedSimpArgs false
set_option linter.unusedVariables false
set_option linter.unnecessarySimpa false
/- Growths: VerifyGrowth and GrowthTexts, the program's and the reference's. -/
namespace Go.Proofs.YtinpiodfpnbllaaGreatDoor
open Go.RowKit
set_option linter.unusedVariables false
set_option linter.unusedSimpArgs false
attribute [local go_sem] run_storeCells_key run_storeCells_new equalIn_keys


set_option maxHeartbeats 4000000 in
set_option maxRecDepth 100000 in
theorem GrowthTexts_any (before : List UInt8) (a b : Int) (P : List (List UInt8)) (A : Option Addr) (c : Nat) (w : World) {m : Nat} (hm : P.length = m) (hr : before.length = 16) (h : KR w A c P) :
    Calls Tryz.prog 45 #[.agg (cellsB before).toArray, .agg #[.int .i64 a, .int .i64 b, .slice A m c]] w fun e w' => TxEnd (gtS before a b P).1 (gtS before a b P).2 e w' ∧ Below w.heap.size w w' := by
  have HR := Lib.hid hr
  have HZ := Lib.hid zero16
  have b0 := alloc2_bel w (.cells (cellsB before).toArray 24) (.cells #[.int .i64 a, .int .i64 b, .slice A m c] 80)
  have R0 := Lib.hid (blk_b0 w (cellsB before).toArray 24 (.cells #[.int .i64 a, .int .i64 b, .slice A m c] 80))
  have P0 := Lib.hid (blk_b1 w (.cells (cellsB before).toArray 24) #[.int .i64 a, .int .i64 b, .slice A m c] 80)
  have hml := h.len
  have HF : Hid (∀ W, Calls Tryz.prog 103 #[.agg #[.int .i64 a, .int .i64 b, .slice A m c]] W fun e w' => e = .returned (.bool (fitsGB a b m)) ∧ Below W.heap.size W w') := fun W => fitsGrowth_any a b A m c W (by omega)
  cases hf : fitsGB a b m with
  | false =>
    have HS : Hid (gtS before a b P = ([], 8)) := by unfold Hid gtS; rw [hm, hf]; rfl
    rw [hf] at HF
    clear hf hm hr h hml
    go_enter Tryz.func45, Tryz.ntmps45
    go_wp2_with (go_at_call 103; refine (HF.out _).mono ?_; rintro e w1 ⟨rfl, hb1⟩; have B1 := Lib.hid (bel_on b0 hb1); clear hb1)
    go_ret2
    rw [HS.out]
    exact ⟨⟨none, 0, [], rfl, rfl, RR.nil _⟩, B1.out⟩
  | true =>
    have HS : Hid (gtS before a b P = ((growS before b.toNat a.toNat P).2.2, 0)) := by unfold Hid gtS; rw [hm, hf]; rfl
    rw [hf] at HF
    obtain ⟨⟨g1, g2, g3⟩, g4⟩ := fitsGB_iff.1 hf
    have HG : Hid (∀ W, Below w.heap.size w W → Calls Tryz.prog 104 #[.pointer (some ⟨W.heap.size, 0, none⟩), .agg (cellsB before).toArray, .int .i64 b, .int .i64 a, .slice A m c] (W.alloc (.cells #[.slice none 0 0] 150)) (GrowEnd W W.heap.size [] (growS before b.toNat a.toNat P) (W.alloc (.cells #[.slice none 0 0] 150)))) := fun W hW => by
      have := grow_any W W.heap.size before hr b.toNat a.toNat true P A c [] (W.alloc (.cells #[.slice none 0 0] 150)) (by omega) (by omega) (by omega) (by rw [hm]; exact g4) (h.below hW) (alloc_bel _ _) (TX.new W) (by simp only [List.length_nil]; omega)
      rwa [hm, Int.toNat_of_nonneg (by omega), Int.toNat_of_nonneg (by omega)] at this
    have hpl := (growS_length hr b.toNat a.toNat (path := P) h.2).1
    have hql := (growS_length hr b.toNat a.toNat (path := P) h.2).2
    have hle := growS_le before b.toNat a.toNat P
    have HSH := Lib.hid (growS_short hr b.toNat a.toNat P h.2)
    generalize growS before b.toNat a.toNat P = r at HS HG hpl hql hle HSH
    obtain ⟨p, q, x⟩ := r
    unfold GrowEnd at HG
    dsimp only at HS HG hpl hql hle HSH
    have HLE : Hid (x.length ≤ 100000) := by unfold Hid; omega
    have hpc : (cellsB p).length = 16 := by rw [cellsB_length, hpl]
    have hpa := all16 p
    have hqc : (cellsB q).length = 16 := by rw [cellsB_length, hql]
    have hqa := all16 q
    clear hf hm hr h hml g1 g2 g3 g4 hpl hql hle
    go_enter Tryz.func45, Tryz.ntmps45
    go_wp2_with (first
      | (go_at_call 103; refine (HF.out _).mono ?_; rintro e w1 ⟨rfl, hb1⟩; have B1 := bel_on b0 hb1; have R1 := R0.out.below' hb1; have P1 := P0.out.below' hb1; have p0 : w1.cell? ⟨w.heap.size + 1, 0, none⟩ = some (.int .i64 a) := P1.cell 0; have p1 : w1.cell? ⟨w.heap.size + 1, 1, none⟩ = some (.int .i64 b) := P1.cell 1; have p2 : w1.cell? ⟨w.heap.size + 1, 2, none⟩ = some (.slice A m c) := P1.cell 2; have hpt : w.heap.size + 1 < w1.heap.size := P1.lt; have HR1 := Lib.hid R1; clear P1 hb1 R1)
      | (refine wpList_load_row rfl 24 (.tmp 2) rfl w.heap.size rfl 24 (cellsB before).toArray (0, 0) _ (HR1.out.alloc _) under_key rfl (cellsB_size _ HR.out) ?_)
      | (go_at_call 104; refine (HG.out w1 B1).mono ?_; rintro e w2 ⟨rfl, ht2, hk2, hb2⟩; rw [List.nil_append] at ht2; have bb := (alloc_bel w1 (.cells #[.slice none 0 0] 150)).trans hb2; have D2 := Lib.hid (bel_on B1 bb); obtain ⟨A2, c2, rs2, hc2, hrs, hrr⟩ := ht2.rr HLE.out; have HRS := Lib.hid hrs; have HRR := Lib.hid hrr; generalize hq2 : rs2.length = k2 at hc2; have HQ2 := Lib.hid hq2; clear ht2 hk2 hb2 bb hrs hrr hq2))
    go_ret2
    rw [HS.out]
    exact ⟨⟨A2, c2, rs2, by rw [HQ2.out]; rfl, HRS.out, HRR.out⟩, D2.out⟩

end Go.Proofs.YtinpiodfpnbllaaGreatDoor

/- Two equal lists of keys are the same. -/
namespace Go.Proofs.YtinpiodfpnbllaaGreatDoor
open Go.RowKit
set_option linter.unusedVariables false
attribute [local go_sem] equalIn_keys

set_option maxHeartbeats 1000000 in
set_option maxRecDepth 100000 in
theorem sameKeys_any (ks : List (List UInt8)) (A : Option Addr) (c : Nat) (B : Option Addr) (d : Nat) (w : World) {n : Nat} (hn : ks.length = n) (h : KR w A c ks) (h' : KR w B d ks) :
    Calls Tryz.prog 44 #[.slice A n c, .slice B n d] w fun e w' => e = .returned (.bool true) ∧ Below w.heap.size w w' := by
  have hnl : (n : Int) ≤ 140737488351232 := by have := h.len; omega
  have HN := Lib.hid hn
  have H := Lib.hid h
  have H' := Lib.hid h'
  clear hn h h'
  go_enter Tryz.func44, Tryz.ntmps44
  go_wp2_with fail
  go_loopw [5] (fun vi wr => ∃ i : Nat, i ≤ n ∧ vi = .int .i64 (i : Int) ∧ Below w.heap.size w wr) (fun vi _ => n - (intOf vi).toNat)
  case atStart => exact ⟨0, by omega, rfl, Below.refl _ _⟩
  case round =>
    obtain ⟨i, hi, rfl, hbel⟩ := hrel
    by_cases hlt : i < n
    · have hii : (i : Int) < n := by omega
      have hil : i < ks.length := by have := HN.out; omega
      obtain ⟨g1, o1, rfl, hg1, hr1⟩ := (H.out.below hbel).at_ hil
      obtain ⟨g2, o2, rfl, hg2, hr2⟩ := (H'.out.below hbel).at_ hil
      have hk : ks[i].length = 16 := H.out.2 _ (List.getElem_mem hil)
      have HR1 := Lib.hid (range_below hr1 (Below.refl _ _).drew)
      have HR2 := Lib.hid (range_below hr2 (Below.refl _ _).drew)
      obtain ⟨k, hkk⟩ : ∃ k, ks[i] = k := ⟨_, rfl⟩
      rw [hkk] at HR1 HR2 hk
      have HK := Lib.hid hk
      have hz : ∀ W, (Op.equalIn 10000 24 (.agg (cellsB k).toArray) (.agg (cellsB k).toArray)).run Tryz.prog W = .ok true W := fun W => by rw [equalIn_keys W k k HK.out HK.out]; simp
      clear hr1 hr2 hk hkk hil
      go_wp2_with fail
      refine wp_region_noPanic ?_
      refine wp_region_held_drew (S := fun w' => w'.rangeAt g1 (o1 + i * 16) (cellsB k) ∧ w'.rangeAt g2 (o2 + i * 16) (cellsB k)) (by kernel_rfl) ⟨HR1.out, HR2.out⟩ (fun hS => ?_)
      refine hd_take 0 (.slice (some ⟨g1, o1, none⟩) n c) rfl rfl (by kernel_rfl) (by kernel_rfl) (by kernel_rfl) (fun _ _ _ h => h) (fun w _ => by go_simp) hS ?_
      refine hd_take 1 (.int .i64 (i : Int)) rfl rfl (by kernel_rfl) (by kernel_rfl) (by kernel_rfl) (fun _ _ _ h => h) (fun w _ => by go_simp) hS ?_
      refine hd_take 4 (.slice (some ⟨g2, o2, none⟩) n d) rfl rfl (by kernel_rfl) (by kernel_rfl) (by kernel_rfl) (fun _ _ _ h => h) (fun w _ => by go_simp) hS ?_
      refine hd_take 5 (.int .i64 (i : Int)) rfl rfl (by kernel_rfl) (by kernel_rfl) (by kernel_rfl) (fun _ _ _ h => h) (fun w _ => by go_simp) hS ?_
      simp only [List.getElem_toArray, List.getElem_cons_succ, List.getElem_cons_zero, Act.put, List.setIfInBounds_toArray, List.set_cons_zero, List.set_cons_succ]
      refine hd_take 2 (.pointer (some ⟨g1, o1 + i * 16, none⟩)) rfl rfl (by kernel_rfl) (by kernel_rfl) (by kernel_rfl) (fun _ _ _ h => h) (fun w _ => by go_simp) hS ?_
      refine hd_take 6 (.pointer (some ⟨g2, o2 + i * 16, none⟩)) rfl rfl (by kernel_rfl) (by kernel_rfl) (by kernel_rfl) (fun _ _ _ h => h) (fun w _ => by go_simp) hS ?_
      simp only [List.getElem_toArray, List.getElem_cons_succ, List.getElem_cons_zero, Act.put, List.setIfInBounds_toArray, List.set_cons_zero, List.set_cons_succ]
      refine hd_load 3 g1 (o1 + i * 16) (cellsB k) _ _ rfl rfl rfl (by kernel_rfl) (by kernel_rfl) (by kernel_rfl) (fun _ _ _ h => h) rfl (fun w hw => hw.1) under_key rfl (key_info HK.out) hS ?_
      simp only [List.getElem_toArray, List.getElem_cons_succ, List.getElem_cons_zero, Act.put, List.setIfInBounds_toArray, List.set_cons_zero, List.set_cons_succ]
      refine hd_load 7 g2 (o2 + i * 16) (cellsB k) _ _ rfl rfl rfl (by kernel_rfl) (by kernel_rfl) (by kernel_rfl) (fun _ _ _ h => h) rfl (fun w hw => hw.2) under_key rfl (key_info HK.out) hS ?_
      simp only [List.getElem_toArray, List.getElem_cons_succ, List.getElem_cons_zero, Act.put, List.setIfInBounds_toArray, List.set_cons_zero, List.set_cons_succ]
      refine hd_take 8 (.bool false) rfl rfl (by kernel_rfl) (by kernel_rfl) (by kernel_rfl) (fun _ _ _ h => h) (fun w _ => by go_simp) hS ?_
      refine wpAnyH_done (by kernel_rfl) (NoPanic.normal ?_) _
      simp only [List.getElem_toArray, List.getElem_cons_succ, List.getElem_cons_zero, Act.put, List.setIfInBounds_toArray, List.set_cons_zero, List.set_cons_succ]
      go_wp2_with fail
      go_roundw
      case rel => exact ⟨i + 1, by omega, by go_num, hbel.drew⟩
      case measure => simp [intOf]; omega
    · obtain rfl : i = n := by omega
      have hii : (i : Int) ≤ i := Int.le_refl _
      go_wp2_with fail
      go_ret
      exact ⟨rfl, hbel⟩
end Go.Proofs.YtinpiodfpnbllaaGreatDoor

/- The law AuditPrefix: the walk. -/
namespace Go.Proofs.YtinpiodfpnbllaaGreatDoor
open Go.RowKit
set_option linter.unusedVariables false
set_option linter.unusedSimpArgs false
attribute [local go_sem] equalIn_keys

set_option maxHeartbeats 2000000 in
set_option maxRecDepth 100000 in
theorem sameNot_any (ks ls : List (List UInt8)) (A : Option Addr) (c : Nat) (B : Option Addr) (d : Nat) (w : World) {n : Nat} (hn : ks.length = n) (hm : ls.length = n) (h : KR w A c ks) (h' : KR w B d ls) (hne : ¬ ks = ls) :
    Calls Tryz.prog 44 #[.slice A n c, .slice B n d] w fun e w' => e = .returned (.bool false) ∧ Below w.heap.size w w' := by
  have hnl : (n : Int) ≤ 140737488351232 := by have := h.len; omega
  have HN := Lib.hid hn
  have HM := Lib.hid hm
  have H := Lib.hid h
  have H' := Lib.hid h'
  have HNE := Lib.hid hne
  clear hn hm h h' hne
  go_enter Tryz.func44, Tryz.ntmps44
  go_wp2_with fail
  go_loopw [5] (fun vi wr => ∃ i : Nat, i ≤ n ∧ vi = .int .i64 (i : Int) ∧ Hid (ks.take i = ls.take i) ∧ Below w.heap.size w wr) (fun vi _ => n - (intOf vi).toNat)
  case atStart => exact ⟨0, by omega, rfl, rfl, Below.refl _ _⟩
  case round =>
    obtain ⟨i, hi, rfl, HT, hbel⟩ := hrel
    by_cases hlt : i < n
    · have hii : (i : Int) < n := by omega
      have hil : i < ks.length := by have := HN.out; omega
      have hjl : i < ls.length := by have := HM.out; omega
      obtain ⟨g1, o1, rfl, hg1, hr1⟩ := (H.out.below hbel).at_ hil
      obtain ⟨g2, o2, rfl, hg2, hr2⟩ := (H'.out.below hbel).at_ hjl
      have hk : ks[i].length = 16 := H.out.2 _ (List.getElem_mem hil)
      have hl : ls[i].length = 16 := H'.out.2 _ (List.getElem_mem hjl)
      have HR1 := Lib.hid (range_below hr1 (Below.refl _ _).drew)
      have HR2 := Lib.hid (range_below hr2 (Below.refl _ _).drew)
      have HST : Hid (ks[i] = ls[i] → ks.take (i + 1) = ls.take (i + 1)) := fun he => by rw [List.take_succ_eq_append_getElem hil, List.take_succ_eq_append_getElem hjl, HT.out, he]
      obtain ⟨k, hkk⟩ : ∃ k, ks[i] = k := ⟨_, rfl⟩
      obtain ⟨l, hll⟩ : ∃ k, ls[i] = k := ⟨_, rfl⟩
      rw [hkk] at HR1 hk HST
      rw [hll] at HR2 hl HST
      have HK := Lib.hid hk
      have HL := Lib.hid hl
      clear hr1 hr2 hk hl hkk hll hil hjl
      go_wp2_with fail
      refine wp_region_noPanic ?_
      refine wp_region_held_drew (S := fun w' => w'.rangeAt g1 (o1 + i * 16) (cellsB k) ∧ w'.rangeAt g2 (o2 + i * 16) (cellsB l)) (by kernel_rfl) ⟨HR1.out, HR2.out⟩ (fun hS => ?_)
      refine hd_take 0 (_) rfl rfl (by kernel_rfl) (by kernel_rfl) (by kernel_rfl) (fun _ _ _ h => h) (fun w hw => by go_simp <;> rfl) hS ?_
      simp only [List.getElem_toArray, List.getElem_cons_succ, List.getElem_cons_zero, Act.put, List.setIfInBounds_toArray, List.set_cons_zero, List.set_cons_succ]
      refine hd_take 1 (_) rfl rfl (by kernel_rfl) (by kernel_rfl) (by kernel_rfl) (fun _ _ _ h => h) (fun w hw => by go_simp <;> rfl) hS ?_
      simp only [List.getElem_toArray, List.getElem_cons_succ, List.getElem_cons_zero, Act.put, List.setIfInBounds_toArray, List.set_cons_zero, List.set_cons_succ]
      refine hd_take 4 (_) rfl rfl (by kernel_rfl) (by kernel_rfl) (by kernel_rfl) (fun _ _ _ h => h) (fun w hw => by go_simp <;> rfl) hS ?_
      simp only [List.getElem_toArray, List.getElem_cons_succ, List.getElem_cons_zero, Act.put, List.setIfInBounds_toArray, List.set_cons_zero, List.set_cons_succ]
      refine hd_take 5 (_) rfl rfl (by kernel_rfl) (by kernel_rfl) (by kernel_rfl) (fun _ _ _ h => h) (fun w hw => by go_simp <;> rfl) hS ?_
      simp only [List.getElem_toArray, List.getElem_cons_succ, List.getElem_cons_zero, Act.put, List.setIfInBounds_toArray, List.set_cons_zero, List.set_cons_succ]
      refine hd_take 2 (_) rfl rfl (by kernel_rfl) (by kernel_rfl) (by kernel_rfl) (fun _ _ _ h => h) (fun w hw => by go_simp <;> rfl) hS ?_
      simp only [List.getElem_toArray, List.getElem_cons_succ, List.getElem_cons_zero, Act.put, List.setIfInBounds_toArray, List.set_cons_zero, List.set_cons_succ]
      refine hd_take 6 (_) rfl rfl (by kernel_rfl) (by kernel_rfl) (by kernel_rfl) (fun _ _ _ h => h) (fun w hw => by go_simp <;> rfl) hS ?_
      simp only [List.getElem_toArray, List.getElem_cons_succ, List.getElem_cons_zero, Act.put, List.setIfInBounds_toArray, List.set_cons_zero, List.set_cons_succ]
      refine hd_load 3 (g1) (o1 + i * 16) (cellsB k) _ _ rfl rfl rfl (by kernel_rfl) (by kernel_rfl) (by kernel_rfl) (fun _ _ _ h => h) rfl (fun w hw => hw.1) under_key rfl (key_info HK.out) hS ?_
      simp only [List.getElem_toArray, List.getElem_cons_succ, List.getElem_cons_zero, Act.put, List.setIfInBounds_toArray, List.set_cons_zero, List.set_cons_succ]
      refine hd_load 7 (g2) (o2 + i * 16) (cellsB l) _ _ rfl rfl rfl (by kernel_rfl) (by kernel_rfl) (by kernel_rfl) (fun _ _ _ h => h) rfl (fun w hw => hw.2) under_key rfl (key_info HL.out) hS ?_
      simp only [List.getElem_toArray, List.getElem_cons_succ, List.getElem_cons_zero, Act.put, List.setIfInBounds_toArray, List.set_cons_zero, List.set_cons_succ]
      by_cases hkl : k = l
      · have e1 : (k == l) = true := by simpa using hkl
        refine hd_take 8 (.bool false) rfl rfl (by kernel_rfl) (by kernel_rfl) (by kernel_rfl) (fun _ _ _ h => h) (fun w hw => by have hx := equalIn_keys w k l HK HL; simp [go_sem, hx, e1]) hS ?_
        simp only [List.getElem_toArray, List.getElem_cons_succ, List.getElem_cons_zero, Act.put, List.setIfInBounds_toArray, List.set_cons_zero, List.set_cons_succ]
        refine wpAnyH_done (by kernel_rfl) (NoPanic.normal ?_) _
        have HKL := Lib.hid hkl
        clear e1 hkl hS
        go_wp2_with fail
        go_roundw
        case rel => exact ⟨i + 1, by omega, by go_num, HST.out HKL.out, hbel.drew⟩
        case measure => simp [intOf]; omega
      · have e1 : (k == l) = false := by simpa using hkl
        refine hd_take 8 (.bool true) rfl rfl (by kernel_rfl) (by kernel_rfl) (by kernel_rfl) (fun _ _ _ h => h) (fun w hw => by have hx := equalIn_keys w k l HK HL; simp [go_sem, hx, e1]) hS ?_
        simp only [List.getElem_toArray, List.getElem_cons_succ, List.getElem_cons_zero, Act.put, List.setIfInBounds_toArray, List.set_cons_zero, List.set_cons_succ]
        refine wpAnyH_done (by kernel_rfl) (NoPanic.normal ?_) _
        clear e1 hkl hS
        go_wp2_with fail
        go_ret
        exact ⟨rfl, hbel.drew⟩
    · exfalso
      obtain rfl : i = n := by omega
      have := HT.out
      rw [List.take_of_length_le (by have := HN.out; omega), List.take_of_length_le (by have := HM.out; omega)] at this
      exact HNE.out this

set_option maxHeartbeats 4000000 in
set_option maxRecDepth 100000 in
theorem prefix_early (l : List (List UInt8)) (A : Option Addr) (c : Nat) (r : List (List UInt8)) (B : Option Addr) (d : Nat) (a b : Int) (P : Option Addr) (u : Nat) (ps : List (List UInt8)) (w : World) {n k m : Nat} (hn : l.length = n) (hk : r.length = k) (hm : ps.length = m) (h : KR w A c l) (h' : KR w B d r) (hp : KR w P u ps) (HA : Hid (∀ W, Below w.heap.size w W → Calls Tryz.prog 25 #[] W fun e w' => e = .returned (.bool true) ∧ Below W.heap.size W w')) (hbad : 128 < n ∨ 128 < k ∨ ¬ a = (n : Int) ∨ ¬ b = (k : Int)) :
    Calls Tryz.prog 11 #[.slice A n c, .slice B k d, .agg #[.int .i64 a, .int .i64 b, .slice P m u]] w fun e w' => e = .returned (.bool true) ∧ Below w.heap.size w w' := by
  have hnl : (n : Int) ≤ 140737488351232 := by have := h.len; omega
  have hkl : (k : Int) ≤ 140737488351232 := by have := h'.len; omega
  obtain ⟨W0, hW0⟩ : ∃ W, W = w.alloc (.cells #[.int .i64 a, .int .i64 b, .slice P m u] 80) := ⟨_, rfl⟩
  have D0 : Hid (Below w.heap.size w W0) := by unfold Hid; rw [hW0]; exact alloc_bel w _
  have Q0 : Hid (Blk W0 w.heap.size 80 #[.int .i64 a, .int .i64 b, .slice P m u]) := by unfold Hid; rw [hW0]; exact Blk.new w _ _
  have HW0 := Lib.hid hW0
  have hb3 : 128 < (n : Int) ∨ 128 < (k : Int) ∨ ¬ a = (n : Int) ∨ ¬ b = (k : Int) := by omega
  clear hW0 hn hk hm h h' hp hbad
  rcases hb3 with hb4 | hb4 | hb4 | hb4
  · go_enter Tryz.func11, Tryz.ntmps11
    go_wp2_with (go_at_call 25; rw [← HW0.out]; (with_reducible refine (HA.out _ D0.out).mono ?_); rintro e w1 ⟨rfl, hb⟩; have D1 := Lib.hid (bel_on D0.out hb); have Q1 := Lib.hid (Q0.out.below' hb); have c10 : w1.cell? ⟨w.heap.size, 0, none⟩ = some (.int .i64 a) := Q1.out.cell 0; have c11 : w1.cell? ⟨w.heap.size, 1, none⟩ = some (.int .i64 b) := Q1.out.cell 1; clear hb)
    all_goals first | omega | (go_ret; exact ⟨rfl, D1.out⟩) | (exfalso; simp_all; omega) | (exfalso; simp_all)
  · go_enter Tryz.func11, Tryz.ntmps11
    go_wp2_with (go_at_call 25; rw [← HW0.out]; (with_reducible refine (HA.out _ D0.out).mono ?_); rintro e w1 ⟨rfl, hb⟩; have D1 := Lib.hid (bel_on D0.out hb); have Q1 := Lib.hid (Q0.out.below' hb); have c10 : w1.cell? ⟨w.heap.size, 0, none⟩ = some (.int .i64 a) := Q1.out.cell 0; have c11 : w1.cell? ⟨w.heap.size, 1, none⟩ = some (.int .i64 b) := Q1.out.cell 1; clear hb)
    all_goals first | omega | (go_ret; exact ⟨rfl, D1.out⟩) | (exfalso; simp_all; omega) | (exfalso; simp_all)
  · have hb5 : (a != (n : Int)) = true := by simpa using hb4
    go_enter Tryz.func11, Tryz.ntmps11
    go_wp2_with (go_at_call 25; rw [← HW0.out]; (with_reducible refine (HA.out _ D0.out).mono ?_); rintro e w1 ⟨rfl, hb⟩; have D1 := Lib.hid (bel_on D0.out hb); have Q1 := Lib.hid (Q0.out.below' hb); have c10 : w1.cell? ⟨w.heap.size, 0, none⟩ = some (.int .i64 a) := Q1.out.cell 0; have c11 : w1.cell? ⟨w.heap.size, 1, none⟩ = some (.int .i64 b) := Q1.out.cell 1; clear hb)
    all_goals first | omega | (go_ret; exact ⟨rfl, D1.out⟩) | (exfalso; simp_all; omega) | (exfalso; simp_all)
  · have hb5 : (b != (k : Int)) = true := by simpa using hb4
    go_enter Tryz.func11, Tryz.ntmps11
    go_wp2_with (go_at_call 25; rw [← HW0.out]; (with_reducible refine (HA.out _ D0.out).mono ?_); rintro e w1 ⟨rfl, hb⟩; have D1 := Lib.hid (bel_on D0.out hb); have Q1 := Lib.hid (Q0.out.below' hb); have c10 : w1.cell? ⟨w.heap.size, 0, none⟩ = some (.int .i64 a) := Q1.out.cell 0; have c11 : w1.cell? ⟨w.heap.size, 1, none⟩ = some (.int .i64 b) := Q1.out.cell 1; clear hb)
    all_goals first | omega | (go_ret; exact ⟨rfl, D1.out⟩) | (exfalso; simp_all; omega) | (exfalso; simp_all)

set_option maxHeartbeats 4000000 in
set_option maxRecDepth 100000 in
theorem prefix_no (l : List (List UInt8)) (A : Option Addr) (c : Nat) (r : List (List UInt8)) (B : Option Addr) (d : Nat) (a b : Int) (P : Option Addr) (u : Nat) (ps : List (List UInt8)) (w : World) {n k m : Nat} (hn : l.length = n) (hk : r.length = k) (hm : ps.length = m) (h : KR w A c l) (h' : KR w B d r) (hp : KR w P u ps) (HA : Hid (∀ W, Below w.heap.size w W → Calls Tryz.prog 25 #[] W fun e w' => e = .returned (.bool true) ∧ Below W.heap.size W w')) (h1 : n ≤ 128) (h2 : k ≤ 128) (e0 : Int) (he0 : e0 = 0 ∨ e0 = 8) (hver : vgS (rootS l) (rootS r) (n : Int) (k : Int) ps = (false, e0)) :
    Calls Tryz.prog 11 #[.slice A n c, .slice B k d, .agg #[.int .i64 (n : Int), .int .i64 (k : Int), .slice P m u]] w fun e w' => e = .returned (.bool true) ∧ Below w.heap.size w w' := by
  have hni : (n : Int) ≤ 128 := by omega
  have hki : (k : Int) ≤ 128 := by omega
  have HR1 : Hid (∀ W, Below w.heap.size w W → Calls Tryz.prog 27 #[.slice A n c] W fun e w' => e = .returned (.tuple #[.agg (cellsB (rootS l)).toArray, .int .i64 0]) ∧ Below W.heap.size W w') := fun W hW => (Root_any l A c W hn (h.below hW)).mono fun e w' hh => by
    have e1 : rtS l = (rootS l, 0) := by unfold rtS; rw [if_neg (by omega)]
    rwa [e1] at hh
  have HR2 : Hid (∀ W, Below w.heap.size w W → Calls Tryz.prog 27 #[.slice B k d] W fun e w' => e = .returned (.tuple #[.agg (cellsB (rootS r)).toArray, .int .i64 0]) ∧ Below W.heap.size W w') := fun W hW => (Root_any r B d W hk (h'.below hW)).mono fun e w' hh => by
    have e1 : rtS r = (rootS r, 0) := by unfold rtS; rw [if_neg (by omega)]
    rwa [e1] at hh
  have HXL : Hid ((rootS l).length = 16) := rootS_length _
  have HYL : Hid ((rootS r).length = 16) := rootS_length _
  have HV : Hid (∀ W, Below w.heap.size w W → Calls Tryz.prog 43 #[.agg (cellsB (rootS l)).toArray, .agg (cellsB (rootS r)).toArray, .agg #[.int .i64 (n : Int), .int .i64 (k : Int), .slice P m u]] W fun e w' => e = .returned (.tuple #[.bool false, .int .i64 e0]) ∧ Below W.heap.size W w') := fun W hW => by
    have := VerifyGrowth_any (rootS l) (rootS r) n k ps P u W hm (rootS_length _) (rootS_length _) (hp.below hW)
    rwa [hver] at this
  have hnl : (n : Int) ≤ 140737488351232 := by have := h.len; omega
  have hkl : (k : Int) ≤ 140737488351232 := by have := h'.len; omega
  obtain ⟨W0, hW0⟩ : ∃ W, W = w.alloc (.cells #[.int .i64 (n : Int), .int .i64 (k : Int), .slice P m u] 80) := ⟨_, rfl⟩
  have D0 : Hid (Below w.heap.size w W0) := by unfold Hid; rw [hW0]; exact alloc_bel w _
  have Q0 : Hid (Blk W0 w.heap.size 80 #[.int .i64 (n : Int), .int .i64 (k : Int), .slice P m u]) := by unfold Hid; rw [hW0]; exact Blk.new w _ _
  have HW0 := Lib.hid hW0
  clear hW0 hn hk hm h h' hp h1 h2 hver
  generalize rootS l = X at HR1 HV HXL
  generalize rootS r = Y at HR2 HV HYL
  rcases he0 with rfl | rfl
  all_goals
    go_enter Tryz.func11, Tryz.ntmps11
    go_wp2_with (first
      | (go_at_call 25; rw [← HW0.out]; (with_reducible refine (HA.out _ D0.out).mono ?_); rintro e w1 ⟨rfl, hb⟩; have D1 := Lib.hid (bel_on D0.out hb); have Q1 := Lib.hid (Q0.out.below' hb); have c10 : w1.cell? ⟨w.heap.size, 0, none⟩ = some (.int .i64 (n : Int)) := Q1.out.cell 0; have c11 : w1.cell? ⟨w.heap.size, 1, none⟩ = some (.int .i64 (k : Int)) := Q1.out.cell 1; clear hb)
      | (go_at_call 27; (with_reducible refine (HR1.out _ D1.out).mono ?_); rintro e w2 ⟨rfl, hb⟩; have D2 := Lib.hid (bel_on D1.out hb); have Q2 := Lib.hid (Q1.out.below' hb); clear hb c10 c11)
      | ((first | rw [zero16] | skip); refine wpList_store_row rfl 24 (.tmp 8) (.tmp 44) rfl w2.heap.size (cellsB X).toArray rfl rfl 24 (cellsB zeroK).toArray (Blk.new w2 _ _) (cellsB_size _ HXL.out) (cellsB_sizes _ _ zeroK_length HXL.out) (cellsB_all _) ?_; obtain ⟨w3, hV⟩ : ∃ W, W = (w2.alloc (.cells (cellsB zeroK).toArray 24)).setRow w2.heap.size (cellsB X).toArray := ⟨_, rfl⟩; rw [← hV]; obtain ⟨hb, nb⟩ := keybox2_ _ _ _ _ hV; have D3 := Lib.hid (bel_on D2.out hb); have Q3 := Lib.hid (Q2.out.below' hb); have X3 := Lib.hid nb; clear hV hb nb)
      | (go_at_call 27; (with_reducible refine (HR2.out _ D3.out).mono ?_); rintro e w4 ⟨rfl, hb⟩; have D4 := Lib.hid (bel_on D3.out hb); have Q4 := Lib.hid (Q3.out.below' hb); have X4 := Lib.hid (X3.out.below' hb); clear hb)
      | ((first | rw [zero16] | skip); refine wpList_store_row rfl 24 (.tmp 10) (.tmp 49) rfl w4.heap.size (cellsB Y).toArray rfl rfl 24 (cellsB zeroK).toArray (Blk.new w4 _ _) (cellsB_size _ HYL.out) (cellsB_sizes _ _ zeroK_length HYL.out) (cellsB_all _) ?_; obtain ⟨w5, hV⟩ : ∃ W, W = (w4.alloc (.cells (cellsB zeroK).toArray 24)).setRow w4.heap.size (cellsB Y).toArray := ⟨_, rfl⟩; rw [← hV]; obtain ⟨hb, nb⟩ := keybox2_ _ _ _ _ hV; have D5 := Lib.hid (bel_on D4.out hb); have Q5 := Lib.hid (Q4.out.below' hb); have X5 := Lib.hid (X4.out.below' hb); have Y5 := Lib.hid nb; clear hV hb nb)
      | (refine wpList_load_row rfl 24 (.tmp 8) rfl w2.heap.size rfl 24 (cellsB X).toArray (0, 0) _ X5.out under_key rfl (cellsB_size _ HXL.out) ?_)
      | (refine wpList_load_row rfl 24 (.tmp 10) rfl w4.heap.size rfl 24 (cellsB Y).toArray (0, 0) _ Y5.out under_key rfl (cellsB_size _ HYL.out) ?_)
      | (refine wpList_load_row rfl 80 (.tmp 5) rfl w.heap.size rfl 80 #[.int .i64 (n : Int), .int .i64 (k : Int), .slice P m u] (0, 0) _ Q5.out Tryz.underlying80 rfl (by kernel_rfl) ?_)
      | (go_at_call 43; (with_reducible refine (HV.out _ D5.out).mono ?_); rintro e w6 ⟨rfl, hb⟩; have D6 := Lib.hid (bel_on D5.out hb); have Q6 := Lib.hid (Q5.out.below' hb); have X6 := Lib.hid (X5.out.below' hb); have Y6 := Lib.hid (Y5.out.below' hb); clear hb))
    go_ret
    exact ⟨rfl, D6.out⟩

set_option maxHeartbeats 4000000 in
set_option maxRecDepth 100000 in
theorem prefix_same (l : List (List UInt8)) (A : Option Addr) (c : Nat) (r : List (List UInt8)) (B : Option Addr) (d : Nat) (a b : Int) (P : Option Addr) (u : Nat) (ps : List (List UInt8)) (w : World) {n k m : Nat} (hn : l.length = n) (hk : r.length = k) (hm : ps.length = m) (h : KR w A c l) (h' : KR w B d r) (hp : KR w P u ps) (HA : Hid (∀ W, Below w.heap.size w W → Calls Tryz.prog 25 #[] W fun e w' => e = .returned (.bool true) ∧ Below W.heap.size W w')) (h2 : k ≤ 128) (h1 : n ≤ k) (hver : vgS (rootS l) (rootS r) (n : Int) (k : Int) ps = (true, 0)) (heq : l = r.take n) :
    Calls Tryz.prog 11 #[.slice A n c, .slice B k d, .agg #[.int .i64 (n : Int), .int .i64 (k : Int), .slice P m u]] w fun e w' => e = .returned (.bool true) ∧ Below w.heap.size w w' := by
  have h3 : n ≤ 128 := by omega
  have hni : (n : Int) ≤ 128 := by omega
  have hki : (k : Int) ≤ 128 := by omega
  have HR1 : Hid (∀ W, Below w.heap.size w W → Calls Tryz.prog 27 #[.slice A n c] W fun e w' => e = .returned (.tuple #[.agg (cellsB (rootS l)).toArray, .int .i64 0]) ∧ Below W.heap.size W w') := fun W hW => (Root_any l A c W hn (h.below hW)).mono fun e w' hh => by
    have e1 : rtS l = (rootS l, 0) := by unfold rtS; rw [if_neg (by omega)]
    rwa [e1] at hh
  have HR2 : Hid (∀ W, Below w.heap.size w W → Calls Tryz.prog 27 #[.slice B k d] W fun e w' => e = .returned (.tuple #[.agg (cellsB (rootS r)).toArray, .int .i64 0]) ∧ Below W.heap.size W w') := fun W hW => (Root_any r B d W hk (h'.below hW)).mono fun e w' hh => by
    have e1 : rtS r = (rootS r, 0) := by unfold rtS; rw [if_neg (by omega)]
    rwa [e1] at hh
  have HXL : Hid ((rootS l).length = 16) := rootS_length _
  have HYL : Hid ((rootS r).length = 16) := rootS_length _
  have HV : Hid (∀ W, Below w.heap.size w W → Calls Tryz.prog 43 #[.agg (cellsB (rootS l)).toArray, .agg (cellsB (rootS r)).toArray, .agg #[.int .i64 (n : Int), .int .i64 (k : Int), .slice P m u]] W fun e w' => e = .returned (.tuple #[.bool true, .int .i64 0]) ∧ Below W.heap.size W w') := fun W hW => by
    have := VerifyGrowth_any (rootS l) (rootS r) n k ps P u W hm (rootS_length _) (rootS_length _) (hp.below hW)
    rwa [hver] at this
  have hkd : k ≤ d := by have := h'.1.1.2.1; omega
  have hsl := fun W => slice_keys_to W B k d n (by omega)
  have hnk : (n : Int) ≤ k := by omega
  have HSK : Hid (∀ W, Below w.heap.size w W → Calls Tryz.prog 44 #[.slice A n c, .slice B n d] W fun e w' => e = .returned (.bool true) ∧ Below W.heap.size W w') := fun W hW => by
    have hl : KR w A c (r.take n) := heq ▸ h
    exact sameKeys_any (r.take n) A c B d W (by rw [List.length_take]; omega) (hl.below hW) ((h'.take n (by omega)).below hW)
  have hnl : (n : Int) ≤ 140737488351232 := by have := h.len; omega
  have hkl : (k : Int) ≤ 140737488351232 := by have := h'.len; omega
  obtain ⟨W0, hW0⟩ : ∃ W, W = w.alloc (.cells #[.int .i64 (n : Int), .int .i64 (k : Int), .slice P m u] 80) := ⟨_, rfl⟩
  have D0 : Hid (Below w.heap.size w W0) := by unfold Hid; rw [hW0]; exact alloc_bel w _
  have Q0 : Hid (Blk W0 w.heap.size 80 #[.int .i64 (n : Int), .int .i64 (k : Int), .slice P m u]) := by unfold Hid; rw [hW0]; exact Blk.new w _ _
  have HW0 := Lib.hid hW0
  clear hW0 hn hk hm h h' hp h1 h2 h3 hver heq hkd
  generalize rootS l = X at HR1 HV HXL
  generalize rootS r = Y at HR2 HV HYL
  go_enter Tryz.func11, Tryz.ntmps11
  go_wp2_with (first
    | (go_at_call 25; rw [← HW0.out]; (with_reducible refine (HA.out _ D0.out).mono ?_); rintro e w1 ⟨rfl, hb⟩; have D1 := Lib.hid (bel_on D0.out hb); have Q1 := Lib.hid (Q0.out.below' hb); have c10 : w1.cell? ⟨w.heap.size, 0, none⟩ = some (.int .i64 (n : Int)) := Q1.out.cell 0; have c11 : w1.cell? ⟨w.heap.size, 1, none⟩ = some (.int .i64 (k : Int)) := Q1.out.cell 1; clear hb)
    | (go_at_call 27; (with_reducible refine (HR1.out _ D1.out).mono ?_); rintro e w2 ⟨rfl, hb⟩; have D2 := Lib.hid (bel_on D1.out hb); have Q2 := Lib.hid (Q1.out.below' hb); clear hb c10 c11)
    | ((first | rw [zero16] | skip); refine wpList_store_row rfl 24 (.tmp 8) (.tmp 44) rfl w2.heap.size (cellsB X).toArray rfl rfl 24 (cellsB zeroK).toArray (Blk.new w2 _ _) (cellsB_size _ HXL.out) (cellsB_sizes _ _ zeroK_length HXL.out) (cellsB_all _) ?_; obtain ⟨w3, hV⟩ : ∃ W, W = (w2.alloc (.cells (cellsB zeroK).toArray 24)).setRow w2.heap.size (cellsB X).toArray := ⟨_, rfl⟩; rw [← hV]; obtain ⟨hb, nb⟩ := keybox2_ _ _ _ _ hV; have D3 := Lib.hid (bel_on D2.out hb); have Q3 := Lib.hid (Q2.out.below' hb); have X3 := Lib.hid nb; clear hV hb nb)
    | (go_at_call 27; (with_reducible refine (HR2.out _ D3.out).mono ?_); rintro e w4 ⟨rfl, hb⟩; have D4 := Lib.hid (bel_on D3.out hb); have Q4 := Lib.hid (Q3.out.below' hb); have X4 := Lib.hid (X3.out.below' hb); clear hb)
    | ((first | rw [zero16] | skip); refine wpList_store_row rfl 24 (.tmp 10) (.tmp 49) rfl w4.heap.size (cellsB Y).toArray rfl rfl 24 (cellsB zeroK).toArray (Blk.new w4 _ _) (cellsB_size _ HYL.out) (cellsB_sizes _ _ zeroK_length HYL.out) (cellsB_all _) ?_; obtain ⟨w5, hV⟩ : ∃ W, W = (w4.alloc (.cells (cellsB zeroK).toArray 24)).setRow w4.heap.size (cellsB Y).toArray := ⟨_, rfl⟩; rw [← hV]; obtain ⟨hb, nb⟩ := keybox2_ _ _ _ _ hV; have D5 := Lib.hid (bel_on D4.out hb); have Q5 := Lib.hid (Q4.out.below' hb); have X5 := Lib.hid (X4.out.below' hb); have Y5 := Lib.hid nb; clear hV hb nb)
    | (refine wpList_load_row rfl 24 (.tmp 8) rfl w2.heap.size rfl 24 (cellsB X).toArray (0, 0) _ X5.out under_key rfl (cellsB_size _ HXL.out) ?_)
    | (refine wpList_load_row rfl 24 (.tmp 10) rfl w4.heap.size rfl 24 (cellsB Y).toArray (0, 0) _ Y5.out under_key rfl (cellsB_size _ HYL.out) ?_)
    | (refine wpList_load_row rfl 80 (.tmp 5) rfl w.heap.size rfl 80 #[.int .i64 (n : Int), .int .i64 (k : Int), .slice P m u] (0, 0) _ Q5.out Tryz.underlying80 rfl (by kernel_rfl) ?_)
    | (go_at_call 43; (with_reducible refine (HV.out _ D5.out).mono ?_); rintro e w6 ⟨rfl, hb⟩; have D6 := Lib.hid (bel_on D5.out hb); have Q6 := Lib.hid (Q5.out.below' hb); have X6 := Lib.hid (X5.out.below' hb); have Y6 := Lib.hid (Y5.out.below' hb); clear hb)
    | (go_at_call 44; (with_reducible refine (HSK.out _ D6.out).mono ?_); rintro e w7 ⟨rfl, hb⟩; have D7 := Lib.hid (bel_on D6.out hb); have Q7 := Lib.hid (Q6.out.below' hb); have X7 := Lib.hid (X6.out.below' hb); clear hb))
  go_ret
  exact ⟨rfl, D7.out⟩

set_option maxHeartbeats 8000000 in
set_option maxRecDepth 100000 in
theorem prefix_clash (l : List (List UInt8)) (A : Option Addr) (c : Nat) (r : List (List UInt8)) (B : Option Addr) (d : Nat) (a b : Int) (P : Option Addr) (u : Nat) (ps : List (List UInt8)) (w : World) {n k m : Nat} (hn : l.length = n) (hk : r.length = k) (hm : ps.length = m) (h : KR w A c l) (h' : KR w B d r) (hp : KR w P u ps) (HA : Hid (∀ W, Below w.heap.size w W → Calls Tryz.prog 25 #[] W fun e w' => e = .returned (.bool true) ∧ Below W.heap.size W w')) (h2 : k ≤ 128) (h1 : n ≤ k) (hver : vgS (rootS l) (rootS r) (n : Int) (k : Int) ps = (true, 0)) (h0 : 1 ≤ n) (hne : ¬ l = r.take n) (hC : Clash (textsS l ++ (textsS r ++ (growS (rootS l) k n ps).2.2))) :
    Calls Tryz.prog 11 #[.slice A n c, .slice B k d, .agg #[.int .i64 (n : Int), .int .i64 (k : Int), .slice P m u]] w fun e w' => e = .returned (.bool true) ∧ Below w.heap.size w w' := by
  have h3 : n ≤ 128 := by omega
  have hni : (n : Int) ≤ 128 := by omega
  have hki : (k : Int) ≤ 128 := by omega
  have HR1 : Hid (∀ W, Below w.heap.size w W → Calls Tryz.prog 27 #[.slice A n c] W fun e w' => e = .returned (.tuple #[.agg (cellsB (rootS l)).toArray, .int .i64 0]) ∧ Below W.heap.size W w') := fun W hW => (Root_any l A c W hn (h.below hW)).mono fun e w' hh => by
    have e1 : rtS l = (rootS l, 0) := by unfold rtS; rw [if_neg (by omega)]
    rwa [e1] at hh
  have HR2 : Hid (∀ W, Below w.heap.size w W → Calls Tryz.prog 27 #[.slice B k d] W fun e w' => e = .returned (.tuple #[.agg (cellsB (rootS r)).toArray, .int .i64 0]) ∧ Below W.heap.size W w') := fun W hW => (Root_any r B d W hk (h'.below hW)).mono fun e w' hh => by
    have e1 : rtS r = (rootS r, 0) := by unfold rtS; rw [if_neg (by omega)]
    rwa [e1] at hh
  have HXL : Hid ((rootS l).length = 16) := rootS_length _
  have HYL : Hid ((rootS r).length = 16) := rootS_length _
  have HV : Hid (∀ W, Below w.heap.size w W → Calls Tryz.prog 43 #[.agg (cellsB (rootS l)).toArray, .agg (cellsB (rootS r)).toArray, .agg #[.int .i64 (n : Int), .int .i64 (k : Int), .slice P m u]] W fun e w' => e = .returned (.tuple #[.bool true, .int .i64 0]) ∧ Below W.heap.size W w') := fun W hW => by
    have := VerifyGrowth_any (rootS l) (rootS r) n k ps P u W hm (rootS_length _) (rootS_length _) (hp.below hW)
    rwa [hver] at this
  have hkd : k ≤ d := by have := h'.1.1.2.1; omega
  have hsl := fun W => slice_keys_to W B k d n (by omega)
  have hnk : (n : Int) ≤ k := by omega
  have HSK : Hid (∀ W, Below w.heap.size w W → Calls Tryz.prog 44 #[.slice A n c, .slice B n d] W fun e w' => e = .returned (.bool false) ∧ Below W.heap.size W w') := fun W hW => sameNot_any l (r.take n) A c B d W hn (by rw [List.length_take]; omega) (h.below hW) ((h'.take n (by omega)).below hW) hne
  have hfit : fitsGB (n : Int) (k : Int) ps.length = true := by
    apply Classical.byContradiction
    intro hx
    unfold vgS at hver
    rw [if_neg hx] at hver
    injection hver with h1 h2
    cases h1
  have HT1 : Hid (∀ W, Below w.heap.size w W → Calls Tryz.prog 40 #[.slice A n c] W fun e w' => (∃ X x n1 rs, e = .returned (.tuple #[.slice X n1 x, .int .i64 0]) ∧ rs.length = n1 ∧ rs.map BRow.l = textsS l ∧ RR w' X x rs) ∧ Below W.heap.size W w') := fun W hW => (Texts_any l A c W hn (h.below hW)).mono fun e w' ⟨⟨X, x, rs, he, hr, hx⟩, hb⟩ => by
    have e1 : textsR l = (textsS l, 0) := by unfold textsR; rw [if_neg (by omega)]
    rw [e1] at he hr
    exact ⟨⟨X, x, _, rs, he, rfl, hr, hx⟩, hb⟩
  have HT2 : Hid (∀ W, Below w.heap.size w W → Calls Tryz.prog 40 #[.slice B k d] W fun e w' => (∃ X x n1 rs, e = .returned (.tuple #[.slice X n1 x, .int .i64 0]) ∧ rs.length = n1 ∧ rs.map BRow.l = textsS r ∧ RR w' X x rs) ∧ Below W.heap.size W w') := fun W hW => (Texts_any r B d W hk (h'.below hW)).mono fun e w' ⟨⟨X, x, rs, he, hr, hx⟩, hb⟩ => by
    have e1 : textsR r = (textsS r, 0) := by unfold textsR; rw [if_neg (by omega)]
    rw [e1] at he hr
    exact ⟨⟨X, x, _, rs, he, rfl, hr, hx⟩, hb⟩
  have HT3 : Hid (∀ W, Below w.heap.size w W → Calls Tryz.prog 45 #[.agg (cellsB (rootS l)).toArray, .agg #[.int .i64 (n : Int), .int .i64 (k : Int), .slice P m u]] W fun e w' => (∃ X x n1 rs, e = .returned (.tuple #[.slice X n1 x, .int .i64 0]) ∧ rs.length = n1 ∧ rs.map BRow.l = (growS (rootS l) k n ps).2.2 ∧ RR w' X x rs) ∧ Below W.heap.size W w') := fun W hW => (GrowthTexts_any (rootS l) n k ps P u W hm (rootS_length _) (hp.below hW)).mono fun e w' ⟨⟨X, x, rs, he, hr, hx⟩, hb⟩ => by
    have e1 : gtS (rootS l) (n : Int) (k : Int) ps = ((growS (rootS l) k n ps).2.2, 0) := by unfold gtS; rw [if_pos hfit, Int.toNat_natCast, Int.toNat_natCast]
    rw [e1] at he hr
    exact ⟨⟨X, x, _, rs, he, rfl, hr, hx⟩, hb⟩
  have b1 := textsS_le n l hn h0
  have b2 := textsS_le k r hk (by omega)
  have b3 := growS_le (rootS l) k n ps
  have s1 := textsS_short n l hn h.2
  have s2 := textsS_short k r hk h'.2
  have s3 := growS_short (rootS_length l) k n ps hp.2
  have HCL : Hid (∀ X1 x1 rs1 n1 X2 x2 rs2 n2 X3 x3 rs3 n3 W, rs1.length = n1 → rs2.length = n2 → rs3.length = n3 → rs1.map BRow.l = textsS l → rs2.map BRow.l = textsS r → rs3.map BRow.l = (growS (rootS l) k n ps).2.2 → RR W X1 x1 rs1 → RR W X2 x2 rs2 → RR W X3 x3 rs3 → Calls Tryz.prog 39 #[.slice (some ⟨W.heap.size, 0, none⟩) 3 3] (W.alloc (.cells #[.slice X1 n1 x1, .slice X2 n2 x2, .slice X3 n3 x3] 71)) fun e w' => e = .returned (.bool true) ∧ Below W.heap.size W w') := fun X1 x1 rs1 n1 X2 x2 rs2 n2 X3 x3 rs3 n3 W l1 l2 l3 t1 t2 t3 r1 r2 r3 => by
    have k1 : rs1.length = (textsS l).length := by rw [← t1, List.length_map]
    have k2 : rs2.length = (textsS r).length := by rw [← t2, List.length_map]
    have k3 : rs3.length = (growS (rootS l) k n ps).2.2.length := by rw [← t3, List.length_map]
    exact clash3_any X1 x1 rs1 X2 x2 rs2 X3 x3 rs3 W l1 l2 l3 r1 r2 r3 (by omega) (by omega) (by omega) (by rw [t1]; intro t ht; have := s1 t ht; omega) (by rw [t2]; intro t ht; have := s2 t ht; omega) (by rw [t3]; intro t ht; have := s3 t ht; omega) (by rw [t1, t2, t3]; exact hC)
  have hnl : (n : Int) ≤ 140737488351232 := by have := h.len; omega
  have hkl : (k : Int) ≤ 140737488351232 := by have := h'.len; omega
  obtain ⟨W0, hW0⟩ : ∃ W, W = w.alloc (.cells #[.int .i64 (n : Int), .int .i64 (k : Int), .slice P m u] 80) := ⟨_, rfl⟩
  have D0 : Hid (Below w.heap.size w W0) := by unfold Hid; rw [hW0]; exact alloc_bel w _
  have Q0 : Hid (Blk W0 w.heap.size 80 #[.int .i64 (n : Int), .int .i64 (k : Int), .slice P m u]) := by unfold Hid; rw [hW0]; exact Blk.new w _ _
  have HW0 := Lib.hid hW0
  clear hW0 hn hk hm h h' hp h1 h2 h3 h0 hver hne hkd hC hfit b1 b2 b3 s1 s2 s3
  generalize (growS (rootS l) k n ps).2.2 = tx3 at HT3 HCL
  generalize textsS l = tx1 at HT1 HCL
  generalize textsS r = tx2 at HT2 HCL
  generalize rootS l = X at HR1 HV HXL HT3
  generalize rootS r = Y at HR2 HV HYL
  go_enter Tryz.func11, Tryz.ntmps11
  go_wp2_with (first
    | (go_at_call 25; rw [← HW0.out]; (with_reducible refine (HA.out _ D0.out).mono ?_); rintro e w1 ⟨rfl, hb⟩; have D1 := Lib.hid (bel_on D0.out hb); have Q1 := Lib.hid (Q0.out.below' hb); have c10 : w1.cell? ⟨w.heap.size, 0, none⟩ = some (.int .i64 (n : Int)) := Q1.out.cell 0; have c11 : w1.cell? ⟨w.heap.size, 1, none⟩ = some (.int .i64 (k : Int)) := Q1.out.cell 1; clear hb)
    | (go_at_call 27; (with_reducible refine (HR1.out _ D1.out).mono ?_); rintro e w2 ⟨rfl, hb⟩; have D2 := Lib.hid (bel_on D1.out hb); have Q2 := Lib.hid (Q1.out.below' hb); clear hb c10 c11)
    | ((first | rw [zero16] | skip); refine wpList_store_row rfl 24 (.tmp 8) (.tmp 44) rfl w2.heap.size (cellsB X).toArray rfl rfl 24 (cellsB zeroK).toArray (Blk.new w2 _ _) (cellsB_size _ HXL.out) (cellsB_sizes _ _ zeroK_length HXL.out) (cellsB_all _) ?_; obtain ⟨w3, hV⟩ : ∃ W, W = (w2.alloc (.cells (cellsB zeroK).toArray 24)).setRow w2.heap.size (cellsB X).toArray := ⟨_, rfl⟩; rw [← hV]; obtain ⟨hb, nb⟩ := keybox2_ _ _ _ _ hV; have D3 := Lib.hid (bel_on D2.out hb); have Q3 := Lib.hid (Q2.out.below' hb); have X3 := Lib.hid nb; clear hV hb nb)
    | (go_at_call 27; (with_reducible refine (HR2.out _ D3.out).mono ?_); rintro e w4 ⟨rfl, hb⟩; have D4 := Lib.hid (bel_on D3.out hb); have Q4 := Lib.hid (Q3.out.below' hb); have X4 := Lib.hid (X3.out.below' hb); clear hb)
    | ((first | rw [zero16] | skip); refine wpList_store_row rfl 24 (.tmp 10) (.tmp 49) rfl w4.heap.size (cellsB Y).toArray rfl rfl 24 (cellsB zeroK).toArray (Blk.new w4 _ _) (cellsB_size _ HYL.out) (cellsB_sizes _ _ zeroK_length HYL.out) (cellsB_all _) ?_; obtain ⟨w5, hV⟩ : ∃ W, W = (w4.alloc (.cells (cellsB zeroK).toArray 24)).setRow w4.heap.size (cellsB Y).toArray := ⟨_, rfl⟩; rw [← hV]; obtain ⟨hb, nb⟩ := keybox2_ _ _ _ _ hV; have D5 := Lib.hid (bel_on D4.out hb); have Q5 := Lib.hid (Q4.out.below' hb); have X5 := Lib.hid (X4.out.below' hb); have Y5 := Lib.hid nb; clear hV hb nb)
    | (refine wpList_load_row rfl 24 (.tmp 8) rfl w2.heap.size rfl 24 (cellsB X).toArray (0, 0) _ X5.out under_key rfl (cellsB_size _ HXL.out) ?_)
    | (refine wpList_load_row rfl 24 (.tmp 10) rfl w4.heap.size rfl 24 (cellsB Y).toArray (0, 0) _ Y5.out under_key rfl (cellsB_size _ HYL.out) ?_)
    | (refine wpList_load_row rfl 80 (.tmp 5) rfl w.heap.size rfl 80 #[.int .i64 (n : Int), .int .i64 (k : Int), .slice P m u] (0, 0) _ Q5.out Tryz.underlying80 rfl (by kernel_rfl) ?_)
    | (go_at_call 43; (with_reducible refine (HV.out _ D5.out).mono ?_); rintro e w6 ⟨rfl, hb⟩; have D6 := Lib.hid (bel_on D5.out hb); have Q6 := Lib.hid (Q5.out.below' hb); have X6 := Lib.hid (X5.out.below' hb); have Y6 := Lib.hid (Y5.out.below' hb); clear hb)
    | (go_at_call 44; (with_reducible refine (HSK.out _ D6.out).mono ?_); rintro e w7 ⟨rfl, hb⟩; have D7 := Lib.hid (bel_on D6.out hb); have Q7 := Lib.hid (Q6.out.below' hb); have X7 := Lib.hid (X6.out.below' hb); clear hb)
    | (go_at_call 40; (with_reducible refine (HT1.out _ D7.out).mono ?_); rintro e w8 ⟨⟨X1, x1, n1, rs1, rfl, l1, t1, r1⟩, hb⟩; have D8 := Lib.hid (bel_on D7.out hb); have Q8 := Lib.hid (Q7.out.below' hb); have X8 := Lib.hid (X7.out.below' hb); have L1 := Lib.hid l1; have T1 := Lib.hid t1; have RA1 := Lib.hid r1; clear hb l1 t1 r1)
    | (go_at_call 40; (with_reducible refine (HT2.out _ D8.out).mono ?_); rintro e w9 ⟨⟨X2, x2, n2, rs2, rfl, l2, t2, r2⟩, hb⟩; have D9 := Lib.hid (bel_on D8.out hb); have Q9 := Lib.hid (Q8.out.below' hb); have X9 := Lib.hid (X8.out.below' hb); have RA2 := Lib.hid (RA1.out.on hb); have L2 := Lib.hid l2; have T2 := Lib.hid t2; have RB2 := Lib.hid r2; clear hb l2 t2 r2)
    | (refine wpList_load_row rfl 24 (.tmp 8) rfl w2.heap.size rfl 24 (cellsB X).toArray (0, 0) _ X9.out under_key rfl (cellsB_size _ HXL.out) ?_)
    | (refine wpList_load_row rfl 80 (.tmp 5) rfl w.heap.size rfl 80 #[.int .i64 (n : Int), .int .i64 (k : Int), .slice P m u] (0, 0) _ Q9.out Tryz.underlying80 rfl (by kernel_rfl) ?_)
    | (go_at_call 45; (with_reducible refine (HT3.out _ D9.out).mono ?_); rintro e w10 ⟨⟨X3, x3, n3, rs3, rfl, l3, t3, r3⟩, hb⟩; have D10 := Lib.hid (bel_on D9.out hb); have RA3 := Lib.hid (RA2.out.on hb); have RB3 := Lib.hid (RB2.out.on hb); have L3 := Lib.hid l3; have T3 := Lib.hid t3; have RC3 := Lib.hid r3; clear hb l3 t3 r3)
    | (go_at_call 39; (with_reducible refine (HCL.out _ _ _ _ _ _ _ _ _ _ _ _ _ L1.out L2.out L3.out T1.out T2.out T3.out RA3.out RB3.out RC3.out).mono ?_); rintro e w11 ⟨rfl, hb⟩; have D11 := Lib.hid (bel_on D10.out hb); clear hb))
  go_ret
  exact ⟨rfl, D11.out⟩

theorem auditPrefix_walk (A : Option Addr) (c : Nat) (l : List (List UInt8)) (B : Option Addr) (d : Nat) (r : List (List UInt8)) (a b : Int) (P : Option Addr) (u : Nat) (ps : List (List UInt8)) (w : World) (h : KR w A c l) (hc : c * 16 ≤ 140737488351232) (h' : KR w B d r) (hd : d * 16 ≤ 140737488351232) (hp : KR w P u ps) (hT : TestsIn w) :
    Calls Tryz.prog 11 #[.slice A l.length c, .slice B r.length d, .agg #[.int .i64 a, .int .i64 b, .slice P ps.length u]] w fun e w' => e = .returned (.bool true) ∧ Below w.heap.size w w' := by
  have HA : Hid (∀ W, Below w.heap.size w W → Calls Tryz.prog 25 #[] W fun e w' => e = .returned (.bool true) ∧ Below W.heap.size W w') := fun W hW => alive_any W (range_below hT hW)
  by_cases hbad : 128 < l.length ∨ 128 < r.length ∨ ¬ a = (l.length : Int) ∨ ¬ b = (r.length : Int)
  · exact prefix_early l A c r B d a b P u ps w rfl rfl rfl h h' hp HA hbad
  · obtain rfl : a = (l.length : Int) := Classical.byContradiction fun hx => hbad (.inr (.inr (.inl hx)))
    obtain rfl : b = (r.length : Int) := Classical.byContradiction fun hx => hbad (.inr (.inr (.inr hx)))
    by_cases hfit : fitsGB (l.length : Int) (r.length : Int) ps.length = true
    · obtain ⟨⟨f1, f2, f3⟩, f5⟩ := fitsGB_iff.1 hfit
      rw [Int.toNat_natCast, Int.toNat_natCast] at f5
      by_cases hr : (growS (rootS l) r.length l.length ps).1 = rootS l ∧ (growS (rootS l) r.length l.length ps).2.1 = rootS r
      · have hver : vgS (rootS l) (rootS r) (l.length : Int) (r.length : Int) ps = (true, 0) := by unfold vgS; rw [if_pos hfit, Int.toNat_natCast, Int.toNat_natCast, hr.1, hr.2, beq_self_eq_true, beq_self_eq_true]; rfl
        by_cases heq : l = r.take l.length
        · exact prefix_same l A c r B d 0 0 P u ps w rfl rfl rfl h h' hp HA (by omega) (by omega) hver heq
        · rcases grow_true r.length l r l.length true (rootS l) ps rfl rfl (by omega) (by omega) f5 hp.2 hr.1 hr.2 with h1 | h1
          · exact absurd h1 heq
          · exact prefix_clash l A c r B d 0 0 P u ps w rfl rfl rfl h h' hp HA (by omega) (by omega) hver (by omega) heq h1
      · have hver : vgS (rootS l) (rootS r) (l.length : Int) (r.length : Int) ps = (false, 0) := by
          unfold vgS
          rw [if_pos hfit, Int.toNat_natCast, Int.toNat_natCast]
          have : ((growS (rootS l) r.length l.length ps).1 == rootS l && (growS (rootS l) r.length l.length ps).2.1 == rootS r) = false := by
            apply Bool.eq_false_iff.2
            intro hx
            rw [Bool.and_eq_true, beq_iff_eq, beq_iff_eq] at hx
            exact hr hx
          rw [this]
        exact prefix_no l A c r B d 0 0 P u ps w rfl rfl rfl h h' hp HA (by omega) (by omega) 0 (.inl rfl) hver
    · have hver : vgS (rootS l) (rootS r) (l.length : Int) (r.length : Int) ps = (false, 8) := by unfold vgS; rw [if_neg hfit]
      exact prefix_no l A c r B d 0 0 P u ps w rfl rfl rfl h h' hp HA (by omega) (by omega) 8 (.inr rfl) hver
end Go.Proofs.YtinpiodfpnbllaaGreatDoor
