/-
  Lemmas and contracts, joined.
-/
import Derived.Deep.QuietTactic
import Derived.BigQuiet
import Derived.Laws.ResultCell
import Derived.Test.YtchnaimpmegbkaaGreatDoorTfTr1
import Derived.Test.YtchnaimpmegbkaaGreatDoorTfTh1
import Derived.Test.YtchnaimpmegbkaaGreatDoorTfTw1
set_option linter.unusedSimpArgs false
set_option linter.unusedVariables false
set_option linter.unnecessarySimpa false
/- The root that a path gives: the program's. -/
namespace Go.Proofs.YtchnaimpmegbkaaGreatDoor
open Go.RowKit
set_option linter.unusedVariables false
set_option linter.unusedSimpArgs false
attribute [local go_sem] run_storeCells_key run_storeCells_new

theorem climbS_le (leaf : List UInt8) : ∀ (n i : Nat) (path : List (List UInt8)), 1 ≤ n → (climbS leaf n i path).2.length ≤ n := by
  intro n
  induction n using Nat.strongRecOn with
  | _ n ih =>
    intro i path h1
    rcases Nat.lt_or_ge n 2 with h2 | h2
    · rw [climbS_one _ (by omega)]; simp; omega
    have s1 := splitS_lt h2
    have s2 := splitS_pos n
    by_cases hi : i < splitS n
    · rw [climbS_low _ _ h2 hi]
      have := ih (splitS n) s1 i (initK path) s2
      simp only [List.length_append, List.length_cons, List.length_nil]; omega
    · rw [climbS_high _ _ h2 hi]
      have := ih (n - splitS n) (by omega) (i - splitS n) (initK path) (by omega)
      simp only [List.length_append, List.length_cons, List.length_nil]; omega
/-- The last key of a path, in memory. -/
theorem KR.lastAt {w : World} {A : Option Addr} {c : Nat} {p : List (List UInt8)} (h : KR w A c p) {m : Nat} (hm : p.length = m + 1) : ∃ b off, A = some ⟨b, off, none⟩ ∧ b < w.heap.size ∧ w.rangeAt b (off + m * 16) (cellsB (lastK p)) ∧ (lastK p).length = 16 := by
  obtain ⟨b, off, e, hb, hr⟩ := h.at_ (i := m) (by omega)
  have hl0 : lastK p = p.getD m [] := by unfold lastK; rw [hm]; rfl
  have hl : lastK p = p[m] := by rw [hl0, List.getD_eq_getElem?_getD, List.getElem?_eq_getElem (by omega)]; rfl
  rw [hl]
  exact ⟨b, off, e, hb, hr, h.2 _ (List.getElem_mem _)⟩
theorem KR.init {w : World} {A : Option Addr} {c : Nat} {p : List (List UInt8)} (h : KR w A c p) : KR w A c (initK p) := h.take _ (by omega)

set_option maxHeartbeats 2000000 in
set_option maxRecDepth 100000 in
theorem climb_one (w0 : World) (g i : Nat) (leaf : List UInt8) (hl : leaf.length = 16) (path : List (List UInt8)) (m : Nat) (A : Option Addr) (c : Nat) (ts : List (List UInt8)) (w : World) (hw : Below w0.heap.size w0 w) (ht : TX w0.heap.size w g ts) (hts : ts.length ≤ 100000) :
    Calls Tryz.prog 70 #[.pointer (some ⟨g, 0, none⟩), .agg (cellsB leaf).toArray, .int .i64 1, .int .i64 (i : Int), .slice A m c] w fun e w' => e = .returned (.agg (cellsB (climbS leaf 1 i path).1).toArray) ∧ TX w0.heap.size w' g (ts ++ (climbS leaf 1 i path).2) ∧ KeepT w w' ∧ Below w0.heap.size w w' := by
  rw [climbS_one _ (by omega)]
  have HZ := Lib.hid zero16
  have HK := Lib.hid hl
  have hws : w0.heap.size ≤ w.heap.size := hw.size
  have b0 := alloc2_bel w (.cells (cellsB leaf).toArray 23) (.cells (cellsB zeroK).toArray 23)
  have B0 := Lib.hid (blk_b0 w (cellsB leaf).toArray 23 (.cells (cellsB zeroK).toArray 23))
  have B1 := Lib.hid (blk_b1 w (.cells (cellsB leaf).toArray 23) (cellsB zeroK).toArray 23)
  have HTX := Lib.hid (ht.below b0)
  have HLT : Hid (∀ W, Calls Tryz.prog 35 #[.agg (cellsB leaf).toArray] W fun e w' => (∃ A c, e = .returned (.slice A 17 c) ∧ OB W.heap.size w' A c (leafT leaf)) ∧ Below W.heap.size W w') := fun W => leafText_any leaf W hl
  have HLL : Hid ((leafT leaf).length = 17) := by unfold Hid leafT; simp [hl]
  dsimp only
  generalize leafT leaf = t at HLT HLL ⊢
  have HTK : Hid (∀ X d W, TX w0.heap.size W g ts → OB w0.heap.size W X d t → Calls Tryz.prog 34 #[.pointer (some ⟨g, 0, none⟩), .slice X 17 d] W fun e w' => e = .returned (.agg (cellsB (digS t)).toArray) ∧ TX w0.heap.size w' g (ts ++ [t]) ∧ KeepT W w' ∧ Below w0.heap.size W w') := fun X d W h1 h2 => take_any ts t X d g W HLL.out h1 h2 (by omega) hts
  have HDL : Hid ((digS t).length = 16) := digS_length _
  generalize digS t = dg at HDL HTK ⊢
  have hdc : (cellsB dg).length = 16 := by rw [cellsB_length, HDL.out]
  have hall := all16 dg
  clear hl ht hw
  go_enter Tryz.func70, Tryz.ntmps70
  go_wp2_with (first
    | (refine wpList_load_row rfl 23 (.tmp 6) rfl w.heap.size rfl 23 (cellsB leaf).toArray (0, 0) _ (by rw [HZ.out]; exact B0.out) under_key rfl (cellsB_size _ HK.out) ?_)
    | (go_at_call 35; rw [HZ.out]; refine (HLT.out _).mono ?_; rintro e w1 ⟨⟨A1, c1, rfl, ho1⟩, hb1⟩; have b1 := bel_on b0 hb1; have TX1 := Lib.hid (HTX.out.below hb1); have O1 := Lib.hid (ho1.le_ (Nat.le_trans hws b0.size)); have Q1 := Lib.hid (B1.out.below' hb1); clear ho1 hb1)
    | (go_at_call 34; refine (HTK.out _ _ _ TX1.out O1.out).mono ?_; rintro e w2 ⟨rfl, htx2, hk2, hb2⟩; have TX2 := Lib.hid htx2; have K2 := Lib.hid ((KeepT.of_below b1).trans hk2); have Q2 := hk2 _ _ Q1.out; have b2 := Lib.hid ((b1.mono hws).trans hb2); have hr2 : (rowAt w2 (w.heap.size + 1)).size = 16 := (by rw [Q2.row]; rfl); have hf2 := Q2.free; have HQ2 := Lib.hid Q2; clear Q2 htx2 hk2 hb2))
  exact bodyPost_ret (results_cell_row rfl _ _ (w.heap.size + 1) _ _ (0, 0) _ rfl (HQ2.out.setRow (cellsB dg).toArray) under_key rfl (cellsB_size _ HDL.out)) rfl ⟨rfl, TX2.out.row HQ2.out _, K2.out.rowAbove (by omega) _, below_setRow b2.out (by omega) _⟩

set_option maxHeartbeats 4000000 in
set_option maxRecDepth 100000 in
theorem climb_any (w0 : World) (g : Nat) (leaf : List UInt8) (hl : leaf.length = 16) (n : Nat) : ∀ (i : Nat) (path : List (List UInt8)) (A : Option Addr) (c : Nat) (ts : List (List UInt8)) (w : World), 1 ≤ n → n ≤ 1000 → i < n → path.length = stepsS n i → KR w0 A c path → Below w0.heap.size w0 w → TX w0.heap.size w g ts → ts.length + n ≤ 50000 →
    Calls Tryz.prog 70 #[.pointer (some ⟨g, 0, none⟩), .agg (cellsB leaf).toArray, .int .i64 (n : Int), .int .i64 (i : Int), .slice A path.length c] w fun e w' => e = .returned (.agg (cellsB (climbS leaf n i path).1).toArray) ∧ TX w0.heap.size w' g (ts ++ (climbS leaf n i path).2) ∧ KeepT w w' ∧ Below w0.heap.size w w' := by
  induction n using Nat.strongRecOn with
  | _ n ih =>
    intro i path A c ts w h1n hbig hin hp h hw ht hts
    rcases Nat.lt_or_ge n 2 with h2 | h2
    · obtain rfl : n = 1 := by omega
      exact climb_one w0 g i leaf hl path path.length A c ts w hw ht (by omega)
    have hs1 := splitS_pos n
    have hs2 := splitS_lt h2
    have hni : (2 : Int) ≤ (n : Int) := by omega
    have hnb : (n : Int) ≤ 1000 := by omega
    have hib : (i : Int) < (n : Int) := by omega
    have hne1 : ¬ (n : Int) = 1 := by omega
    have hws : w0.heap.size ≤ w.heap.size := hw.size
    have hcl := Rd.le h.1
    have hcap := Rd.len h.1
    have HSP : Hid (∀ W, Calls Tryz.prog 67 #[.int .i64 (n : Int)] W fun e w' => e = .returned (.int .i64 ((splitS n : Nat) : Int)) ∧ W = w') := fun W => split_any n W h2 (by omega)
    have b0 := alloc2_bel w (.cells (cellsB leaf).toArray 23) (.cells (cellsB zeroK).toArray 23)
    have B0 := Lib.hid (blk_b0 w (cellsB leaf).toArray 23 (.cells (cellsB zeroK).toArray 23))
    have B1 := Lib.hid (blk_b1 w (.cells (cellsB leaf).toArray 23) (cellsB zeroK).toArray 23)
    have HTX := Lib.hid (ht.below b0)
    have HW := Lib.hid hw
    have HZ := Lib.hid zero16
    have HK := Lib.hid hl
    by_cases hk : i < splitS n
    · have hki : (i : Int) < ((splitS n : Nat) : Int) := by omega
      obtain ⟨m, hm⟩ : ∃ m, path.length = m + 1 := ⟨path.length - 1, by rw [hp, stepsS_low h2 hk]; omega⟩
      rw [climbS_low _ _ h2 hk]
      have hq2 := climbS_le leaf (splitS n) (i) (initK path) (by omega)
      have hql := climbS_length leaf (splitS n) (i) (initK path)
      have HC : Hid (∀ W, Below w0.heap.size w0 W → TX w0.heap.size W g ts → Calls Tryz.prog 70 #[.pointer (some ⟨g, 0, none⟩), .agg (cellsB leaf).toArray, .int .i64 ((splitS n : Nat) : Int), .int .i64 (i : Int), .slice A m c] W fun e w' => e = .returned (.agg (cellsB (climbS leaf (splitS n) i (initK path)).1).toArray) ∧ TX w0.heap.size w' g (ts ++ (climbS leaf (splitS n) i (initK path)).2) ∧ KeepT W w' ∧ Below w0.heap.size W w') := fun W hW hT => by
        have hlen : m = (initK path).length := by rw [initK_length, hm]; omega
        rw [hlen]
        exact (ih (splitS n) hs2 i (initK path) A c ts W hs1 (by omega) hk (by rw [initK_length, hp, stepsS_low h2 hk]; omega) h.init hW hT (by omega))
      obtain ⟨b, off, rfl, hb, hr, hhl⟩ := h.lastAt hm
      have HR : Hid (∀ W, Below w0.heap.size w0 W → W.rangeAt b (off + m * 16) (cellsB (lastK path))) := fun W hW => range_below hr hW
      have HH := Lib.hid hhl
      have hmi : (m : Int) ≤ 140737488351232 := by omega
      have hmc : m ≤ c := by omega
      have hmlt : (m : Int) < (m : Int) + 1 := by omega
      have hsl := fun W => slice_keys_to W (some ⟨b, off, none⟩) (m + 1) c m hmc
      generalize climbS leaf (splitS n) i (initK path) = r at HC hq2 hql ⊢
      obtain ⟨q, x⟩ := r
      dsimp only at HC hq2 hql ⊢
      generalize lastK path = h0 at HR HH ⊢
      rw [hm]
      generalize splitS n = k at *
      have HNT : Hid (∀ W, Calls Tryz.prog 37 #[.agg (cellsB q).toArray, .agg (cellsB h0).toArray] W fun e w' => (∃ A c, e = .returned (.slice A 33 c) ∧ OB W.heap.size w' A c (nodeT q h0)) ∧ Below W.heap.size W w') := fun W => nodeText_any q h0 W (by first | exact hql | exact HH.out) (by first | exact HH.out | exact hql)
      have HNL : Hid ((nodeT q h0).length = 33) := by unfold Hid nodeT; simp [hql, HH.out]
      generalize nodeT q h0 = t at HNT HNL ⊢
      have HTK : Hid (∀ X d W, TX w0.heap.size W g (ts ++ x) → OB w0.heap.size W X d t → Calls Tryz.prog 34 #[.pointer (some ⟨g, 0, none⟩), .slice X 33 d] W fun e w' => e = .returned (.agg (cellsB (digS t)).toArray) ∧ TX w0.heap.size w' g ((ts ++ x) ++ [t]) ∧ KeepT W w' ∧ Below w0.heap.size W w') := fun X d W h1 h2 => take_any _ t X d g W HNL.out h1 h2 (by omega) (by rw [List.length_append]; omega)
      have HDL : Hid ((digS t).length = 16) := digS_length _
      generalize digS t = dg at HDL HTK ⊢
      have HBW : Hid (b < w0.heap.size) := hb
      clear ih h hp hm hw ht hts hq2 hr hhl hb hl
      go_enter Tryz.func70, Tryz.ntmps70
      go_wp2_with (go_at_call 67; rw [HZ.out]; refine (HSP.out _).mono ?_; rintro e w1 ⟨rfl, rfl⟩)
      obtain ⟨W0, hW0⟩ : ∃ W : World, W = (w.alloc (.cells (cellsB leaf).toArray 23)).alloc (.cells (cellsB zeroK).toArray 23) := ⟨_, rfl⟩
      rw [← hW0] at b0 B0 B1 HTX ⊢
      clear hW0
      refine wp_region_noPanic ?_
      have bw : Below w0.heap.size w0 W0.drew := HW.out.trans ((b0.mono hws).trans (Below.refl _ _).drew)
      refine wp_region_held_drew (S := fun w' => w'.rangeAt w.heap.size 0 (cellsB leaf) ∧ w'.rangeAt b (off + m * 16) (cellsB h0)) (by kernel_rfl) ⟨B0.out.drew.range, HR.out _ bw⟩ (fun hS => ?_)
      refine hd_take 0 (_) rfl rfl (by kernel_rfl) (by kernel_rfl) (by kernel_rfl) (fun _ _ _ h => h) (fun w _ => by go_simp <;> rfl) hS ?_
      refine hd_take 1 (_) rfl rfl (by kernel_rfl) (by kernel_rfl) (by kernel_rfl) (fun _ _ _ h => h) (fun w _ => by go_simp <;> rfl) hS ?_
      refine hd_take 3 (_) rfl rfl (by kernel_rfl) (by kernel_rfl) (by kernel_rfl) (fun _ _ _ h => h) (fun w _ => by go_simp <;> rfl) hS ?_
      refine hd_take 4 (_) rfl rfl (by kernel_rfl) (by kernel_rfl) (by kernel_rfl) (fun _ _ _ h => h) (fun w _ => by go_simp <;> rfl) hS ?_
      refine hd_take 5 (_) rfl rfl (by kernel_rfl) (by kernel_rfl) (by kernel_rfl) (fun _ _ _ h => h) (fun w _ => by go_simp <;> rfl) hS ?_
      refine hd_take 6 (_) rfl rfl (by kernel_rfl) (by kernel_rfl) (by kernel_rfl) (fun _ _ _ h => h) (fun w _ => by go_simp <;> rfl) hS ?_
      refine hd_take 9 (_) rfl rfl (by kernel_rfl) (by kernel_rfl) (by kernel_rfl) (fun _ _ _ h => h) (fun w _ => by go_simp <;> rfl) hS ?_
      refine hd_take 10 (_) rfl rfl (by kernel_rfl) (by kernel_rfl) (by kernel_rfl) (fun _ _ _ h => h) (fun w _ => by go_simp <;> rfl) hS ?_
      simp only [List.getElem_toArray, List.getElem_cons_succ, List.getElem_cons_zero, Act.put, List.setIfInBounds_toArray, List.set_cons_zero, List.set_cons_succ]
      refine hd_take 7 (_) rfl rfl (by kernel_rfl) (by kernel_rfl) (by kernel_rfl) (fun _ _ _ h => h) (fun w _ => by go_simp <;> rfl) hS ?_
      refine hd_take 11 (_) rfl rfl (by kernel_rfl) (by kernel_rfl) (by kernel_rfl) (fun _ _ _ h => h) (fun w _ => by go_simp <;> rfl) hS ?_
      simp only [List.getElem_toArray, List.getElem_cons_succ, List.getElem_cons_zero, Act.put, List.setIfInBounds_toArray, List.set_cons_zero, List.set_cons_succ]
      refine hd_load 2 w.heap.size 0 (cellsB leaf) _ _ rfl rfl rfl (by kernel_rfl) (by kernel_rfl) (by kernel_rfl) (fun _ _ _ h => h) rfl (fun w hw => hw.1) under_key rfl (key_info HK.out) hS ?_
      refine hd_load 12 b (off + m * 16) (cellsB h0) _ _ rfl rfl rfl (by kernel_rfl) (by kernel_rfl) (by kernel_rfl) (fun _ _ _ h => h) rfl (fun w hw => hw.2) under_key rfl (key_info HH.out) hS ?_
      simp only [List.getElem_toArray, List.getElem_cons_succ, List.getElem_cons_zero, Act.put, List.setIfInBounds_toArray, List.set_cons_zero, List.set_cons_succ]
      refine hd_calls 8 70 #[.pointer (some ⟨g, 0, none⟩), .agg (cellsB leaf).toArray, .int .i64 (k : Int), .int .i64 (i : Int), .slice (some ⟨b, off, none⟩) m c] rfl rfl (by kernel_rfl) (by go_simp) ((HC.out _ bw (HTX.out.below (Below.refl _ _).drew)).mono ?_)
      rintro e w3 ⟨rfl, ht3, hk3, hb3⟩
      have Q3 := hk3 _ _ B0.out.drew
      have R3 := hk3 _ _ B1.out.drew
      have b3 := bw.trans hb3
      have k3 : KeepT w w3 := ((KeepT.of_below b0).trans (KeepT.of_below (Below.refl _ _).drew)).trans hk3
      refine ⟨_, rfl, ⟨Q3.range, HR.out _ b3⟩, ?_⟩
      simp only [List.getElem_toArray, List.getElem_cons_succ, List.getElem_cons_zero, Act.put, List.setIfInBounds_toArray, List.set_cons_zero, List.set_cons_succ]
      refine hd_calls 13 37 #[.agg (cellsB q).toArray, .agg (cellsB h0).toArray] rfl rfl (by kernel_rfl) (by go_simp) ((HNT.out _).mono ?_)
      rintro e w4 ⟨⟨A4, c4, rfl, ho4⟩, hb4⟩
      have Q4 := Q3.below' hb4
      have R4 := R3.below' hb4
      have b4 := bel_on b3 hb4
      have t4 := ht3.below hb4
      have o4 := ho4.le_ b3.size
      refine ⟨_, rfl, ⟨Q4.range, HR.out _ b4⟩, ?_⟩
      simp only [List.getElem_toArray, List.getElem_cons_succ, List.getElem_cons_zero, Act.put, List.setIfInBounds_toArray, List.set_cons_zero, List.set_cons_succ]
      refine hd_calls 14 34 #[.pointer (some ⟨g, 0, none⟩), .slice A4 33 c4] rfl rfl (by kernel_rfl) (by go_simp) ((HTK.out _ _ _ t4 o4).mono ?_)
      rintro e w6 ⟨rfl, ht6, hk6, hb6⟩
      have Q6 := hk6 _ _ Q4
      have R6 := hk6 _ _ R4
      have b6 := b4.trans hb6
      have K6 : KeepT w w6 := (k3.trans (KeepT.of_below hb4)).trans hk6
      refine ⟨_, rfl, ⟨Q6.range, HR.out _ b6⟩, ?_⟩
      simp only [List.getElem_toArray, List.getElem_cons_succ, List.getElem_cons_zero, Act.put, List.setIfInBounds_toArray, List.set_cons_zero, List.set_cons_succ]
      have hS7 := And.intro (range_setRow Q6.range (g' := w.heap.size + 1) (by omega) (cellsB dg).toArray) (range_setRow (HR.out _ b6) (g' := w.heap.size + 1) (by have := HBW.out; omega) (cellsB dg).toArray)
      refine hd_store 15 (w.heap.size + 1) (cellsB dg).toArray _ _ _ rfl rfl rfl (by kernel_rfl) rfl rfl R6 (cellsB_size _ HDL.out) (by rw [List.size_toArray, List.size_toArray, cellsB_length, cellsB_length, HDL.out]; rfl) (all_oneCell_toArray (cells_one dg)) hS7 ?_
      refine wpAnyH_done (by kernel_rfl) (NoPanic.normal ?_) _
      simp only [List.getElem_toArray, List.getElem_cons_succ, List.getElem_cons_zero, Act.put, List.setIfInBounds_toArray, List.set_cons_zero, List.set_cons_succ]
      have HT6 := Lib.hid (ht6.row R6 (cellsB dg).toArray)
      have HK6 := Lib.hid (K6.rowAbove (g := w.heap.size + 1) (by omega) (cellsB dg).toArray)
      have HB6 := Lib.hid (below_setRow ((b0.mono hws).trans ((Below.refl _ W0).drew.trans ((hb3.trans (hb4.mono b3.size)).trans hb6))) (g := w.heap.size + 1) (by omega) (cellsB dg).toArray)
      have HQ6 := Lib.hid (R6.setRow (cellsB dg).toArray)
      clear ht6 t4 ht3 hk3 hk6 K6 k3 Q3 R3 Q4 R4 Q6 R6 hS hS7 o4 ho4
      go_wp2_with fail
      exact bodyPost_ret (results_cell_row rfl _ _ (w.heap.size + 1) _ _ (0, 0) _ rfl HQ6.out under_key rfl (cellsB_size _ HDL.out)) rfl ⟨rfl, by have := HT6.out; simpa only [List.append_assoc] using this, HK6.out, HB6.out⟩
    · have hki : ¬ (i : Int) < ((splitS n : Nat) : Int) := by omega
      have hki2 : ((splitS n : Nat) : Int) ≤ (i : Int) := by omega
      have hkn : ((splitS n : Nat) : Int) < (n : Int) := by omega
      have w1 : IntKind.i64.wrap ((n : Int) - ((splitS n : Nat) : Int)) = (n : Int) - ((splitS n : Nat) : Int) := by rw [IntKind.wrap_i64]; omega
      have w2 : IntKind.i64.wrap ((i : Int) - ((splitS n : Nat) : Int)) = (i : Int) - ((splitS n : Nat) : Int) := by rw [IntKind.wrap_i64]; omega
      obtain ⟨m, hm⟩ : ∃ m, path.length = m + 1 := ⟨path.length - 1, by rw [hp, stepsS_high h2 hk]; omega⟩
      rw [climbS_high _ _ h2 hk]
      have hq2 := climbS_le leaf (n - splitS n) (i - splitS n) (initK path) (by omega)
      have hql := climbS_length leaf (n - splitS n) (i - splitS n) (initK path)
      have HC : Hid (∀ W, Below w0.heap.size w0 W → TX w0.heap.size W g ts → Calls Tryz.prog 70 #[.pointer (some ⟨g, 0, none⟩), .agg (cellsB leaf).toArray, .int .i64 ((n : Int) - ((splitS n : Nat) : Int)), .int .i64 ((i : Int) - ((splitS n : Nat) : Int)), .slice A m c] W fun e w' => e = .returned (.agg (cellsB (climbS leaf (n - splitS n) (i - splitS n) (initK path)).1).toArray) ∧ TX w0.heap.size w' g (ts ++ (climbS leaf (n - splitS n) (i - splitS n) (initK path)).2) ∧ KeepT W w' ∧ Below w0.heap.size W w') := fun W hW hT => by
        have hlen : m = (initK path).length := by rw [initK_length, hm]; omega
        rw [hlen]
        exact (by
        rw [show (n : Int) - ((splitS n : Nat) : Int) = ((n - splitS n : Nat) : Int) from by omega, show (i : Int) - ((splitS n : Nat) : Int) = ((i - splitS n : Nat) : Int) from by omega]
        exact ih (n - splitS n) (by omega) (i - splitS n) (initK path) A c ts W (by omega) (by omega) (by omega) (by rw [initK_length, hp, stepsS_high h2 hk]; omega) h.init hW hT (by omega))
      obtain ⟨b, off, rfl, hb, hr, hhl⟩ := h.lastAt hm
      have HR : Hid (∀ W, Below w0.heap.size w0 W → W.rangeAt b (off + m * 16) (cellsB (lastK path))) := fun W hW => range_below hr hW
      have HH := Lib.hid hhl
      have hmi : (m : Int) ≤ 140737488351232 := by omega
      have hmc : m ≤ c := by omega
      have hmlt : (m : Int) < (m : Int) + 1 := by omega
      have hsl := fun W => slice_keys_to W (some ⟨b, off, none⟩) (m + 1) c m hmc
      generalize climbS leaf (n - splitS n) (i - splitS n) (initK path) = r at HC hq2 hql ⊢
      obtain ⟨q, x⟩ := r
      dsimp only at HC hq2 hql ⊢
      generalize lastK path = h0 at HR HH ⊢
      rw [hm]
      generalize splitS n = k at *
      have HNT : Hid (∀ W, Calls Tryz.prog 37 #[.agg (cellsB h0).toArray, .agg (cellsB q).toArray] W fun e w' => (∃ A c, e = .returned (.slice A 33 c) ∧ OB W.heap.size w' A c (nodeT h0 q)) ∧ Below W.heap.size W w') := fun W => nodeText_any h0 q W (by first | exact hql | exact HH.out) (by first | exact HH.out | exact hql)
      have HNL : Hid ((nodeT h0 q).length = 33) := by unfold Hid nodeT; simp [hql, HH.out]
      generalize nodeT h0 q = t at HNT HNL ⊢
      have HTK : Hid (∀ X d W, TX w0.heap.size W g (ts ++ x) → OB w0.heap.size W X d t → Calls Tryz.prog 34 #[.pointer (some ⟨g, 0, none⟩), .slice X 33 d] W fun e w' => e = .returned (.agg (cellsB (digS t)).toArray) ∧ TX w0.heap.size w' g ((ts ++ x) ++ [t]) ∧ KeepT W w' ∧ Below w0.heap.size W w') := fun X d W h1 h2 => take_any _ t X d g W HNL.out h1 h2 (by omega) (by rw [List.length_append]; omega)
      have HDL : Hid ((digS t).length = 16) := digS_length _
      generalize digS t = dg at HDL HTK ⊢
      have HBW : Hid (b < w0.heap.size) := hb
      clear ih h hp hm hw ht hts hq2 hr hhl hb hl
      go_enter Tryz.func70, Tryz.ntmps70
      go_wp2_with (go_at_call 67; rw [HZ.out]; refine (HSP.out _).mono ?_; rintro e w1 ⟨rfl, rfl⟩)
      obtain ⟨W0, hW0⟩ : ∃ W : World, W = (w.alloc (.cells (cellsB leaf).toArray 23)).alloc (.cells (cellsB zeroK).toArray 23) := ⟨_, rfl⟩
      rw [← hW0] at b0 B0 B1 HTX ⊢
      clear hW0
      refine wp_region_noPanic ?_
      have bw : Below w0.heap.size w0 W0.drew := HW.out.trans ((b0.mono hws).trans (Below.refl _ _).drew)
      refine wp_region_held_drew (S := fun w' => w'.rangeAt w.heap.size 0 (cellsB leaf) ∧ w'.rangeAt b (off + m * 16) (cellsB h0)) (by kernel_rfl) ⟨B0.out.drew.range, HR.out _ bw⟩ (fun hS => ?_)
      refine hd_take 0 (_) rfl rfl (by kernel_rfl) (by kernel_rfl) (by kernel_rfl) (fun _ _ _ h => h) (fun w _ => by go_simp <;> rfl) hS ?_
      refine hd_take 1 (_) rfl rfl (by kernel_rfl) (by kernel_rfl) (by kernel_rfl) (fun _ _ _ h => h) (fun w _ => by go_simp <;> rfl) hS ?_
      refine hd_take 2 (_) rfl rfl (by kernel_rfl) (by kernel_rfl) (by kernel_rfl) (fun _ _ _ h => h) (fun w _ => by go_simp <;> rfl) hS ?_
      refine hd_take 5 (_) rfl rfl (by kernel_rfl) (by kernel_rfl) (by kernel_rfl) (fun _ _ _ h => h) (fun w _ => by go_simp <;> rfl) hS ?_
      refine hd_take 7 (_) rfl rfl (by kernel_rfl) (by kernel_rfl) (by kernel_rfl) (fun _ _ _ h => h) (fun w _ => by go_simp <;> rfl) hS ?_
      refine hd_take 8 (_) rfl rfl (by kernel_rfl) (by kernel_rfl) (by kernel_rfl) (fun _ _ _ h => h) (fun w _ => by go_simp <;> rfl) hS ?_
      refine hd_take 10 (_) rfl rfl (by kernel_rfl) (by kernel_rfl) (by kernel_rfl) (fun _ _ _ h => h) (fun w _ => by go_simp <;> rfl) hS ?_
      refine hd_take 11 (_) rfl rfl (by kernel_rfl) (by kernel_rfl) (by kernel_rfl) (fun _ _ _ h => h) (fun w _ => by go_simp <;> rfl) hS ?_
      refine hd_take 13 (_) rfl rfl (by kernel_rfl) (by kernel_rfl) (by kernel_rfl) (fun _ _ _ h => h) (fun w _ => by go_simp <;> rfl) hS ?_
      refine hd_take 14 (_) rfl rfl (by kernel_rfl) (by kernel_rfl) (by kernel_rfl) (fun _ _ _ h => h) (fun w _ => by go_simp <;> rfl) hS ?_
      simp only [List.getElem_toArray, List.getElem_cons_succ, List.getElem_cons_zero, Act.put, List.setIfInBounds_toArray, List.set_cons_zero, List.set_cons_succ]
      refine hd_take 3 (_) rfl rfl (by kernel_rfl) (by kernel_rfl) (by kernel_rfl) (fun _ _ _ h => h) (fun w _ => by go_simp <;> rfl) hS ?_
      refine hd_take 9 (_) rfl rfl (by kernel_rfl) (by kernel_rfl) (by kernel_rfl) (fun _ _ _ h => h) (fun w _ => by go_simp <;> rfl) hS ?_
      refine hd_take 12 (_) rfl rfl (by kernel_rfl) (by kernel_rfl) (by kernel_rfl) (fun _ _ _ h => h) (fun w _ => by go_simp <;> rfl) hS ?_
      refine hd_take 15 (_) rfl rfl (by kernel_rfl) (by kernel_rfl) (by kernel_rfl) (fun _ _ _ h => h) (fun w _ => by go_simp <;> rfl) hS ?_
      simp only [List.getElem_toArray, List.getElem_cons_succ, List.getElem_cons_zero, Act.put, List.setIfInBounds_toArray, List.set_cons_zero, List.set_cons_succ]
      refine hd_load 6 w.heap.size 0 (cellsB leaf) _ _ rfl rfl rfl (by kernel_rfl) (by kernel_rfl) (by kernel_rfl) (fun _ _ _ h => h) rfl (fun w hw => hw.1) under_key rfl (key_info HK.out) hS ?_
      refine hd_load 4 b (off + m * 16) (cellsB h0) _ _ rfl rfl rfl (by kernel_rfl) (by kernel_rfl) (by kernel_rfl) (fun _ _ _ h => h) rfl (fun w hw => hw.2) under_key rfl (key_info HH.out) hS ?_
      simp only [List.getElem_toArray, List.getElem_cons_succ, List.getElem_cons_zero, Act.put, List.setIfInBounds_toArray, List.set_cons_zero, List.set_cons_succ]
      refine hd_calls 16 70 #[.pointer (some ⟨g, 0, none⟩), .agg (cellsB leaf).toArray, .int .i64 ((n : Int) - (k : Int)), .int .i64 ((i : Int) - (k : Int)), .slice (some ⟨b, off, none⟩) m c] rfl rfl (by kernel_rfl) (by go_simp) ((HC.out _ bw (HTX.out.below (Below.refl _ _).drew)).mono ?_)
      rintro e w3 ⟨rfl, ht3, hk3, hb3⟩
      have Q3 := hk3 _ _ B0.out.drew
      have R3 := hk3 _ _ B1.out.drew
      have b3 := bw.trans hb3
      have k3 : KeepT w w3 := ((KeepT.of_below b0).trans (KeepT.of_below (Below.refl _ _).drew)).trans hk3
      refine ⟨_, rfl, ⟨Q3.range, HR.out _ b3⟩, ?_⟩
      simp only [List.getElem_toArray, List.getElem_cons_succ, List.getElem_cons_zero, Act.put, List.setIfInBounds_toArray, List.set_cons_zero, List.set_cons_succ]
      refine hd_calls 17 37 #[.agg (cellsB h0).toArray, .agg (cellsB q).toArray] rfl rfl (by kernel_rfl) (by go_simp) ((HNT.out _).mono ?_)
      rintro e w4 ⟨⟨A4, c4, rfl, ho4⟩, hb4⟩
      have Q4 := Q3.below' hb4
      have R4 := R3.below' hb4
      have b4 := bel_on b3 hb4
      have t4 := ht3.below hb4
      have o4 := ho4.le_ b3.size
      refine ⟨_, rfl, ⟨Q4.range, HR.out _ b4⟩, ?_⟩
      simp only [List.getElem_toArray, List.getElem_cons_succ, List.getElem_cons_zero, Act.put, List.setIfInBounds_toArray, List.set_cons_zero, List.set_cons_succ]
      refine hd_calls 18 34 #[.pointer (some ⟨g, 0, none⟩), .slice A4 33 c4] rfl rfl (by kernel_rfl) (by go_simp) ((HTK.out _ _ _ t4 o4).mono ?_)
      rintro e w6 ⟨rfl, ht6, hk6, hb6⟩
      have Q6 := hk6 _ _ Q4
      have R6 := hk6 _ _ R4
      have b6 := b4.trans hb6
      have K6 : KeepT w w6 := (k3.trans (KeepT.of_below hb4)).trans hk6
      refine ⟨_, rfl, ⟨Q6.range, HR.out _ b6⟩, ?_⟩
      simp only [List.getElem_toArray, List.getElem_cons_succ, List.getElem_cons_zero, Act.put, List.setIfInBounds_toArray, List.set_cons_zero, List.set_cons_succ]
      have hS7 := And.intro (range_setRow Q6.range (g' := w.heap.size + 1) (by omega) (cellsB dg).toArray) (range_setRow (HR.out _ b6) (g' := w.heap.size + 1) (by have := HBW.out; omega) (cellsB dg).toArray)
      refine hd_store 19 (w.heap.size + 1) (cellsB dg).toArray _ _ _ rfl rfl rfl (by kernel_rfl) rfl rfl R6 (cellsB_size _ HDL.out) (by rw [List.size_toArray, List.size_toArray, cellsB_length, cellsB_length, HDL.out]; rfl) (all_oneCell_toArray (cells_one dg)) hS7 ?_
      refine wpAnyH_done (by kernel_rfl) (NoPanic.normal ?_) _
      simp only [List.getElem_toArray, List.getElem_cons_succ, List.getElem_cons_zero, Act.put, List.setIfInBounds_toArray, List.set_cons_zero, List.set_cons_succ]
      have HT6 := Lib.hid (ht6.row R6 (cellsB dg).toArray)
      have HK6 := Lib.hid (K6.rowAbove (g := w.heap.size + 1) (by omega) (cellsB dg).toArray)
      have HB6 := Lib.hid (below_setRow ((b0.mono hws).trans ((Below.refl _ W0).drew.trans ((hb3.trans (hb4.mono b3.size)).trans hb6))) (g := w.heap.size + 1) (by omega) (cellsB dg).toArray)
      have HQ6 := Lib.hid (R6.setRow (cellsB dg).toArray)
      clear ht6 t4 ht3 hk3 hk6 K6 k3 Q3 R3 Q4 R4 Q6 R6 hS hS7 o4 ho4
      go_wp2_with fail
      exact bodyPost_ret (results_cell_row rfl _ _ (w.heap.size + 1) _ _ (0, 0) _ rfl HQ6.out under_key rfl (cellsB_size _ HDL.out)) rfl ⟨rfl, by have := HT6.out; simpa only [List.append_assoc] using this, HK6.out, HB6.out⟩
end Go.Proofs.YtchnaimpmegbkaaGreatDoor

/- Which proofs and growths fit: the program's test. -/
namespace Go.Proofs.YtchnaimpmegbkaaGreatDoor
open Go.RowKit
set_option linter.unusedVariables false
set_option linter.unusedSimpArgs false

def fitsB (a b : Int) (n : Nat) : Bool := decide (1 ≤ a ∧ a ≤ 128 ∧ 0 ≤ b ∧ b < a) && decide (n = stepsS a.toNat b.toNat)
theorem fitsB_no {a b : Int} {n : Nat} (h : ¬ (1 ≤ a ∧ a ≤ 128 ∧ 0 ≤ b ∧ b < a)) : fitsB a b n = false := by unfold fitsB; rw [decide_eq_false h]; rfl
theorem fitsB_in {a b : Int} {n : Nat} (h : 1 ≤ a ∧ a ≤ 128 ∧ 0 ≤ b ∧ b < a) : fitsB a b n = decide (n = stepsS a.toNat b.toNat) := by unfold fitsB; rw [decide_eq_true h]; rfl
theorem fitsB_iff {a b : Int} {n : Nat} : fitsB a b n = true ↔ (1 ≤ a ∧ a ≤ 128 ∧ 0 ≤ b ∧ b < a) ∧ n = stepsS a.toNat b.toNat := by simp [fitsB]
set_option maxHeartbeats 2000000 in
set_option maxRecDepth 100000 in
theorem fits_any (a b : Int) (A : Option Addr) (n c : Nat) (w : World) (hn : n ≤ 140737488351232) :
    Calls Tryz.prog 31 #[.agg (prC a b A n c).toArray] w fun e w' => e = .returned (.bool (fitsB a b n)) ∧ Below w.heap.size w w' := by
  have b0 := alloc_bel w (.cells #[.int .i64 a, .int .i64 b, .slice A n c] 41)
  have hni : (n : Int) ≤ 140737488351232 := by omega
  unfold prC
  rcases (by omega : a < 1 ∨ (1 ≤ a ∧ 128 < a) ∨ (1 ≤ a ∧ a ≤ 128 ∧ b < 0) ∨ (1 ≤ a ∧ a ≤ 128 ∧ 0 ≤ b ∧ a ≤ b) ∨ (1 ≤ a ∧ a ≤ 128 ∧ 0 ≤ b ∧ b < a)) with h | ⟨h1, h2⟩ | ⟨h1, h2, h3⟩ | ⟨h1, h2, h3, h4⟩ | ⟨h1, h2, h3, h4⟩
  · have HF : Hid (fitsB a b n = false) := fitsB_no (by omega)
    go_enter Tryz.func31, Tryz.ntmps31
    go_wp2
    go_ret
    exact ⟨by rw [HF.out]; rfl, b0⟩
  · have HF : Hid (fitsB a b n = false) := fitsB_no (by omega)
    go_enter Tryz.func31, Tryz.ntmps31
    go_wp2
    go_ret
    exact ⟨by rw [HF.out]; rfl, b0⟩
  · have HF : Hid (fitsB a b n = false) := fitsB_no (by omega)
    go_enter Tryz.func31, Tryz.ntmps31
    go_wp2
    go_ret
    exact ⟨by rw [HF.out]; rfl, b0⟩
  · have HF : Hid (fitsB a b n = false) := fitsB_no (by omega)
    go_enter Tryz.func31, Tryz.ntmps31
    go_wp2
    go_ret
    exact ⟨by rw [HF.out]; rfl, b0⟩
  · have HF : Hid (fitsB a b n = decide (n = stepsS a.toNat b.toNat)) := fitsB_in ⟨h1, h2, h3, h4⟩
    obtain ⟨p, rfl⟩ : ∃ p : Nat, a = (p : Int) := ⟨a.toNat, by omega⟩
    obtain ⟨q, rfl⟩ : ∃ q : Nat, b = (q : Int) := ⟨b.toNat, by omega⟩
    rw [Int.toNat_natCast, Int.toNat_natCast] at HF
    obtain ⟨T, hT⟩ : ∃ T, stepsS p q = T := ⟨_, rfl⟩
    have HT := Lib.hid hT
    rw [hT] at HF
    clear hT
    have hqp : q < p := by omega
    have hp1 : 1 ≤ p := by omega
    have hp2 : p ≤ 128 := by omega
    have HB0 := Lib.hid b0
    have c0 : Hid ((w.alloc (.cells #[.int .i64 (p : Int), .int .i64 (q : Int), .slice A n c] 41)).cell? ⟨w.heap.size, 0, none⟩ = some (.int .i64 (p : Int))) := (Blk.new w _ _).cell 0
    have c1 : Hid ((w.alloc (.cells #[.int .i64 (p : Int), .int .i64 (q : Int), .slice A n c] 41)).cell? ⟨w.heap.size, 1, none⟩ = some (.int .i64 (q : Int))) := (Blk.new w _ _).cell 1
    have c2 : Hid ((w.alloc (.cells #[.int .i64 (p : Int), .int .i64 (q : Int), .slice A n c] 41)).cell? ⟨w.heap.size, 2, none⟩ = some (.slice A n c)) := (Blk.new w _ _).cell 2
    clear b0
    go_enter Tryz.func31, Tryz.ntmps31
    go_wp2_with fail
    generalize w.alloc (.cells #[.int .i64 (p : Int), .int .i64 (q : Int), .slice A n c] 41) = W0 at HB0 c0 c1 c2 ⊢
    refine wp_region_noPanic ?_
    refine wp_region_held_drew (S := fun w' => w'.cell? ⟨w.heap.size, 0, none⟩ = some (.int .i64 (p : Int)) ∧ w'.cell? ⟨w.heap.size, 1, none⟩ = some (.int .i64 (q : Int))) (by kernel_rfl) ⟨c0.out, c1.out⟩ (fun hS => ?_)
    refine hd_take 0 (_) rfl rfl (by kernel_rfl) (by kernel_rfl) (by kernel_rfl) (fun _ _ _ h => h) (fun w _ => by go_simp <;> rfl) hS ?_
    refine hd_take 2 (_) rfl rfl (by kernel_rfl) (by kernel_rfl) (by kernel_rfl) (fun _ _ _ h => h) (fun w _ => by go_simp <;> rfl) hS ?_
    simp only [List.getElem_toArray, List.getElem_cons_succ, List.getElem_cons_zero, Act.put, List.setIfInBounds_toArray, List.set_cons_zero, List.set_cons_succ]
    refine hd_take 1 (.int .i64 (p : Int)) rfl rfl (by kernel_rfl) (by kernel_rfl) (by kernel_rfl) (fun _ _ _ h => h) (fun w hw => by have hx := hw.1; simp [go_sem, hx]) hS ?_
    refine hd_take 3 (.int .i64 (q : Int)) rfl rfl (by kernel_rfl) (by kernel_rfl) (by kernel_rfl) (fun _ _ _ h => h) (fun w hw => by have hx := hw.2; simp [go_sem, hx]) hS ?_
    simp only [List.getElem_toArray, List.getElem_cons_succ, List.getElem_cons_zero, Act.put, List.setIfInBounds_toArray, List.set_cons_zero, List.set_cons_succ]
    refine hd_take 4 (_) rfl rfl (by kernel_rfl) (by kernel_rfl) (by kernel_rfl) (fun _ _ _ h => h) (fun w _ => by go_simp <;> rfl) hS ?_
    refine hd_take 5 (_) rfl rfl (by kernel_rfl) (by kernel_rfl) (by kernel_rfl) (fun _ _ _ h => h) (fun w _ => by go_simp <;> rfl) hS ?_
    simp only [List.getElem_toArray, List.getElem_cons_succ, List.getElem_cons_zero, Act.put, List.setIfInBounds_toArray, List.set_cons_zero, List.set_cons_succ]
    refine wpAnyH_done (by kernel_rfl) (NoPanic.normal ?_) _
    have C2 : W0.drew.cell? ⟨w.heap.size, 2, none⟩ = some (.slice A n c) := c2.out
    have HD := Lib.hid (HB0.out.drew)
    generalize W0.drew = W1 at C2 HD ⊢
    clear hS c0 c1 c2 HB0
    go_wp2_with fail
    have e1 : decide ((p : Int) < 1) = false := decide_eq_false (by omega)
    have e2 : decide ((128 : Int) < (p : Int)) = false := decide_eq_false (by omega)
    have e3 : decide ((q : Int) < 0) = false := decide_eq_false (by omega)
    have e4 : decide (p ≤ q) = false := decide_eq_false (by omega)
    simp only [e1, e2, e3, e4, Bool.or_false]
    clear e1 e2 e3 e4
    go_loop [3, 4, 5] (fun v3 v4 v5 => ∃ s k j : Nat, v3 = .int .i64 (s : Int) ∧ v4 = .int .i64 (k : Int) ∧ v5 = .int .i64 (j : Int) ∧ 1 ≤ k ∧ j < k ∧ s + k ≤ 129 ∧ s + stepsS k j = T) (fun _ v4 _ => (intOf v4).toNat)
    case atStart => exact ⟨0, p, q, rfl, rfl, rfl, hp1, hqp, by omega, by rw [HT.out]; omega⟩
    case round =>
      obtain ⟨s, k, j, rfl, rfl, rfl, hk1, hjk, hsk, hst⟩ := hrel
      by_cases hk2 : 2 ≤ k
      · have hs1 := splitS_pos k
        have hs2 := splitS_lt hk2
        have hkb : (k : Int) ≤ 129 := by omega
        have hsb : (s : Int) ≤ 129 := by omega
        have hgt : (1 : Int) < (k : Int) := by omega
        have HSP : Hid (∀ W, Calls Tryz.prog 67 #[.int .i64 (k : Int)] W fun e w' => e = .returned (.int .i64 ((splitS k : Nat) : Int)) ∧ W = w') := fun W => split_any k W hk2 (by omega)
        by_cases hlt : j < splitS k
        · have HN : Hid (s + 1 + stepsS (splitS k) j = T) := by unfold Hid; rw [← hst, stepsS_low hk2 hlt]; omega
          generalize splitS k = m at *
          have hji : (j : Int) < (m : Int) := by omega
          clear hst
          go_wp2_with (go_at_call 67; refine (HSP.out _).mono ?_; rintro e w1 ⟨rfl, rfl⟩)
          go_round
          case rel => exact ⟨s + 1, m, j, by go_num, rfl, rfl, hs1, hlt, by omega, HN.out⟩
          case measure => simp [intOf]; omega
        · have HN : Hid (s + 1 + stepsS (k - splitS k) (j - splitS k) = T) := by unfold Hid; rw [← hst, stepsS_high hk2 hlt]; omega
          generalize splitS k = m at *
          have hji : ¬ (j : Int) < (m : Int) := by omega
          have hmj : (m : Int) ≤ (j : Int) := by omega
          have hmk : (m : Int) < (k : Int) := by omega
          clear hst
          go_wp2_with (go_at_call 67; refine (HSP.out _).mono ?_; rintro e w1 ⟨rfl, rfl⟩)
          go_round
          case rel => exact ⟨s + 1, k - m, j - m, by go_num, by rw [show ((k - m : Nat) : Int) = (k : Int) - (m : Int) from by omega], by rw [show ((j - m : Nat) : Int) = (j : Int) - (m : Int) from by omega], by omega, by omega, by omega, HN.out⟩
          case measure => simp [intOf]; omega
      · obtain rfl : k = 1 := by omega
        have hs : s = T := by rw [stepsS_one (by omega)] at hst; omega
        subst hs
        clear hst
        by_cases he : n = s
        · subst he
          have HF' : Hid (fitsB (p : Int) (q : Int) n = true) := by unfold Hid; rw [HF.out]; simp
          clear HF HT
          go_wp2_with fail
          go_ret
          exact ⟨by rw [HF'.out]; rfl, HD.out⟩
        · have HF' : Hid (fitsB (p : Int) (q : Int) n = false) := by unfold Hid; rw [HF.out]; simp [he]
          have hei : ((n : Int) == (s : Int)) = false := by rw [beq_eq_false_iff_ne]; omega
          clear HF HT
          go_wp2_with fail
          go_ret
          exact ⟨by rw [HF'.out]; rfl, HD.out⟩

end Go.Proofs.YtchnaimpmegbkaaGreatDoor

/- Texts: the program's; texts that were returned. -/
namespace Go.Proofs.YtchnaimpmegbkaaGreatDoor
open Go.RowKit
set_option linter.unusedVariables false
set_option linter.unusedSimpArgs false

theorem RR.nil (w : World) : RR w none 0 [] := ⟨Rd.nil w 1, by simp⟩
theorem TX.rr {B : Nat} {w : World} {g : Nat} {ts : List (List UInt8)} (h : TX B w g ts) (hl : ts.length ≤ 100000) : ∃ A c rs, w.cell? ⟨g, 0, none⟩ = some (.slice A rs.length c) ∧ rs.map BRow.l = ts ∧ RR w A c rs := by
  obtain ⟨A, c, rs, h1, h2, h3, h4, h5, h6⟩ := h
  have hrl : rs.length ≤ 100000 := by rw [← List.length_map (f := BRow.l), h1]; exact hl
  refine ⟨A, c, rs, h3.cell 0, h1, h4.rr (by omega) fun r hr => (h5 r hr).br ?_⟩
  have := h6 r.l (by rw [← h1]; exact List.mem_map.2 ⟨r, hr, rfl⟩)
  omega
theorem TX.new (w : World) : TX w.heap.size (w.alloc (.cells #[.slice none 0 0] 86)) w.heap.size [] :=
  ⟨none, 0, [], rfl, Nat.le_refl _, Blk.new w _ _, RO.nil _ _, by simp, by simp⟩

end Go.Proofs.YtchnaimpmegbkaaGreatDoor

/- What a proof gives: the program's Verify and PathTexts. -/
namespace Go.Proofs.YtchnaimpmegbkaaGreatDoor
open Go.RowKit
set_option linter.unusedVariables false
set_option linter.unusedSimpArgs false
attribute [local go_sem] run_storeCells_key run_storeCells_new equalIn_keys

/-- A key and texts that are returned. -/
def GvEnd (r : List UInt8) (ts : List (List UInt8)) (e : Ending) (w' : World) : Prop := ∃ A c rs, e = .returned (.tuple #[.agg (cellsB r).toArray, .slice A rs.length c]) ∧ rs.map BRow.l = ts ∧ RR w' A c rs
set_option maxHeartbeats 2000000 in
set_option maxRecDepth 100000 in
theorem given_any (leaf : List UInt8) (n i : Nat) (P : List (List UInt8)) (A : Option Addr) (c : Nat) (w : World) {m : Nat} (hm : P.length = m) (hl : leaf.length = 16) (h1 : 1 ≤ n) (h2 : n ≤ 128) (hi : i < n) (hp : P.length = stepsS n i) (h : KR w A c P) :
    Calls Tryz.prog 38 #[.agg (cellsB leaf).toArray, .agg #[.int .i64 (n : Int), .int .i64 (i : Int), .slice A m c]] w fun e w' => GvEnd (climbS leaf n i P).1 (climbS leaf n i P).2 e w' ∧ Below w.heap.size w w' := by
  have HZ := Lib.hid zero16
  have HK := Lib.hid hl
  have b0 := alloc3_bel w (.cells (cellsB leaf).toArray 23) (.cells #[.int .i64 (n : Int), .int .i64 (i : Int), .slice A m c] 41) (.cells (cellsB zeroK).toArray 23)
  have L0 := Lib.hid (blk_a0 w (cellsB leaf).toArray 23 (.cells #[.int .i64 (n : Int), .int .i64 (i : Int), .slice A m c] 41) (.cells (cellsB zeroK).toArray 23))
  have R0 := Lib.hid (blk_a2 w (.cells (cellsB leaf).toArray 23) (.cells #[.int .i64 (n : Int), .int .i64 (i : Int), .slice A m c] 41) (cellsB zeroK).toArray 23)
  obtain ⟨W3, hW3⟩ : ∃ W, W = ((w.alloc (.cells (cellsB leaf).toArray 23)).alloc (.cells #[.int .i64 (n : Int), .int .i64 (i : Int), .slice A m c] 41)).alloc (.cells (cellsB zeroK).toArray 23) := ⟨_, rfl⟩
  have hsz : W3.heap.size = w.heap.size + 1 + 1 + 1 := by rw [hW3]; simp
  have ht0 := TX.new W3
  have b3 := alloc_bel W3 (.cells #[.slice none 0 0] 86)
  have hle := climbS_le leaf n i P h1
  have hrl := climbS_length leaf n i P
  have HC := climb_any W3 W3.heap.size leaf hl n i P A c [] (W3.alloc (.cells #[.slice none 0 0] 86)) h1 (by omega) hi hp (by rw [hW3]; exact h.below b0) b3 ht0 (by simp; omega)
  rw [hm, List.nil_append] at HC
  have HSZ := Lib.hid hsz
  have HC' := Lib.hid HC
  have HW3 := Lib.hid hW3
  rw [← hW3] at b0 L0 R0
  generalize climbS leaf n i P = r at HC' hle hrl HC ⊢
  obtain ⟨q, x⟩ := r
  dsimp only at HC' hle hrl HC ⊢
  have HRL := Lib.hid hrl
  have hdc : (cellsB q).length = 16 := by rw [cellsB_length, hrl]
  have hall := all16 q
  have HLE : Hid (x.length ≤ 100000) := by unfold Hid; omega
  clear hm hl h1 h2 hi hp h hsz HC ht0 hW3 hle hrl
  go_enter Tryz.func38, Tryz.ntmps38
  go_wp2_with (first
    | (refine wpList_load_row rfl 23 (.tmp 2) rfl w.heap.size rfl 23 (cellsB leaf).toArray (0, 0) _ (by rw [HZ.out, ← HW3.out]; exact (L0.out.alloc _)) under_key rfl (cellsB_size _ HK.out) ?_)
    | (go_at_call 70; rw [HZ.out, ← HW3.out, ← HSZ.out]; refine HC'.out.mono ?_; rintro e w1 ⟨rfl, ht1, hk1, hb1⟩; obtain ⟨A1, c1, rs, hc1, hrs, hrr⟩ := ht1.rr HLE.out; have tlt := ht1.lt; have B1 := Lib.hid (b3.trans hb1); have HTX := Lib.hid ht1; generalize hq : rs.length = k1 at hc1; have HQ := Lib.hid hq; have HC1 := Lib.hid hc1; clear hc1 hq hrs hrr ht1 hk1 hb1))
  have BA := alloc_bel w1 (.cells (cellsB q).toArray 23)
  have Q0 := Blk.new w1 23 (cellsB q).toArray
  have R1 : Blk (w1.alloc (.cells (cellsB q).toArray 23)) (w.heap.size + 1 + 1) 23 (cellsB zeroK).toArray := (R0.out.below' B1.out).alloc _
  have C1 : (w1.alloc (.cells (cellsB q).toArray 23)).cell? ⟨W3.heap.size, 0, none⟩ = some (.slice A1 k1 c1) := (BA.cell (p := ⟨W3.heap.size, 0, none⟩) tlt).trans HC1.out
  have RA := HTX.out.below BA
  have hne : w1.heap.size ≠ w.heap.size + 1 + 1 := by have := HSZ.out; omega
  have hne2 : W3.heap.size ≠ w.heap.size + 1 + 1 := by have := HSZ.out; omega
  rw [HSZ.out] at C1 hne2
  have BW : Below w.heap.size w (w1.alloc (.cells (cellsB q).toArray 23)) := bel_on (bel_on b0 B1.out) BA
  obtain ⟨W4, hW4⟩ : ∃ W, W = w1.alloc (.cells (cellsB q).toArray 23) := ⟨_, rfl⟩
  rw [← hW4] at Q0 R1 C1 RA BW ⊢
  clear hW4 BA HC1
  refine wp_region_noPanic ?_
  refine wp_region_held_drew (S := fun w' => w'.rangeAt w1.heap.size 0 (cellsB q) ∧ w'.cell? ⟨w.heap.size + 1 + 1 + 1, 0, none⟩ = some (.slice A1 k1 c1)) (by kernel_rfl) ⟨Q0.drew.range, C1⟩ (fun hS => ?_)
  refine hd_load 0 w1.heap.size 0 (cellsB q) _ _ rfl rfl rfl (by kernel_rfl) (by kernel_rfl) (by kernel_rfl) (fun _ _ _ h => h) rfl (fun w hw => hw.1) under_key rfl (key_info HRL.out) hS ?_
  refine hd_take 1 (.slice A1 k1 c1) rfl rfl (by kernel_rfl) (by kernel_rfl) (by kernel_rfl) (fun _ _ _ h => h) (fun w hw => by have hx := hw.2; simp [go_sem, HSZ.out, hx]) hS ?_
  simp only [List.getElem_toArray, List.getElem_cons_succ, List.getElem_cons_zero, Act.put, List.setIfInBounds_toArray, List.set_cons_zero, List.set_cons_succ]
  have hS7 := And.intro (range_setRow hS.1 (g' := w.heap.size + 1 + 1) hne (cellsB q).toArray) ((World.cell?_of_block (a := ⟨w.heap.size + 1 + 1 + 1, 0, none⟩) (setRow_other W4.drew (w.heap.size + 1 + 1) (w.heap.size + 1 + 1 + 1) (cellsB q).toArray (by omega))).trans hS.2)
  refine hd_store 2 (w.heap.size + 1 + 1) (cellsB q).toArray _ _ _ rfl rfl rfl (by kernel_rfl) rfl rfl R1.drew (cellsB_size _ HRL.out) (by rw [List.size_toArray, List.size_toArray, cellsB_length, cellsB_length, HRL.out]; rfl) (all_oneCell_toArray (cells_one q)) hS7 ?_
  refine hd_take 3 (_) rfl rfl (by kernel_rfl) (by kernel_rfl) (by kernel_rfl) (fun _ _ _ h => h) (fun w _ => by go_simp <;> rfl) hS7 ?_
  simp only [List.getElem_toArray, List.getElem_cons_succ, List.getElem_cons_zero, Act.put, List.setIfInBounds_toArray, List.set_cons_zero, List.set_cons_succ]
  refine wpAnyH_done (by kernel_rfl) (NoPanic.normal ?_) _
  have HRF := Lib.hid (R1.drew.setRow (cellsB q).toArray)
  have HBF := Lib.hid (below_setRow BW.drew (g := w.heap.size + 1 + 1) (by omega) (cellsB q).toArray)
  obtain ⟨A5, c5, rs5, hc5, hrs5, hrr5⟩ := ((RA.below (Below.refl _ _).drew).row R1.drew (cellsB q).toArray).rr HLE.out
  rw [HSZ.out, hS7.2] at hc5
  injection hc5 with hc5
  injection hc5 with e1 e2 e3
  subst e1 e3
  have HQ5 := Lib.hid e2
  have HRS5 := Lib.hid hrs5
  have HRR5 := Lib.hid hrr5
  clear hS hS7 Q0 R1 C1 RA BW e2 hrs5 hrr5
  go_wp2_with fail
  refine bodyPost_ret (v := .tuple #[.agg (cellsB q).toArray, .slice A1 k1 c1]) ?_ rfl ⟨⟨A1, c1, rs5, by rw [HQ5.out], HRS5.out, HRR5.out⟩, HBF.out⟩
  rw [results_cell_tmp Tryz.results38]
  simp [asAddr, Result.andThen, run_loadVar_row _ (w.heap.size + 1 + 1) _ _ _ (0, 0) _ HRF.out under_key rfl (cellsB_size _ HRL.out)]

set_option maxHeartbeats 2000000 in
set_option maxRecDepth 100000 in
theorem gives_any (root leaf : List UInt8) (n i : Nat) (P : List (List UInt8)) (A : Option Addr) (c : Nat) (w : World) {m : Nat} (hm : P.length = m) (hr : root.length = 16) (hl : leaf.length = 16) (h1 : 1 ≤ n) (h2 : n ≤ 128) (hi : i < n) (hp : P.length = stepsS n i) (h : KR w A c P) :
    Calls Tryz.prog 155 #[.agg (cellsB root).toArray, .agg (cellsB leaf).toArray, .agg #[.int .i64 (n : Int), .int .i64 (i : Int), .slice A m c]] w fun e w' => e = .returned (.bool ((climbS leaf n i P).1 == root)) ∧ Below w.heap.size w w' := by
  have HZ := Lib.hid zero16
  have HK := Lib.hid hl
  have HR := Lib.hid hr
  have b0 := alloc3_bel w (.cells (cellsB root).toArray 23) (.cells (cellsB leaf).toArray 23) (.cells #[.int .i64 (n : Int), .int .i64 (i : Int), .slice A m c] 41)
  have R0 := Lib.hid (blk_a0 w (cellsB root).toArray 23 (.cells (cellsB leaf).toArray 23) (.cells #[.int .i64 (n : Int), .int .i64 (i : Int), .slice A m c] 41))
  have L0 := Lib.hid (blk_a1 w (.cells (cellsB root).toArray 23) (cellsB leaf).toArray 23 (.cells #[.int .i64 (n : Int), .int .i64 (i : Int), .slice A m c] 41))
  have HG : Hid (∀ W, Below w.heap.size w W → Calls Tryz.prog 38 #[.agg (cellsB leaf).toArray, .agg #[.int .i64 (n : Int), .int .i64 (i : Int), .slice A m c]] W fun e w' => GvEnd (climbS leaf n i P).1 (climbS leaf n i P).2 e w' ∧ Below W.heap.size W w') := fun W hW => given_any leaf n i P A c W hm hl h1 h2 hi hp (h.below hW)
  have hrl := climbS_length leaf n i P
  generalize climbS leaf n i P = r at HG hrl ⊢
  obtain ⟨q, x⟩ := r
  unfold GvEnd at HG
  dsimp only at HG hrl ⊢
  have HRL := Lib.hid hrl
  have hdc : (cellsB q).length = 16 := by rw [cellsB_length, hrl]
  have hall := all16 q
  clear hm hr hl h1 h2 hi hp h hrl
  go_enter Tryz.func155, Tryz.ntmps155
  go_wp2_with (first
    | (refine wpList_load_row rfl 23 (.tmp 4) rfl (w.heap.size + 1) rfl 23 (cellsB leaf).toArray (0, 0) _ L0.out under_key rfl (cellsB_size _ HK.out) ?_)
    | (go_at_call 38; refine (HG.out _ b0).mono ?_; rintro e w1 ⟨⟨A1, c1, rs, rfl, _, _⟩, hb1⟩; have B1 := Lib.hid (bel_on b0 hb1); have R1 := Lib.hid ((R0.out.below' hb1).alloc (.cells (cellsB q).toArray 23)); have Q1 := Lib.hid (Blk.new w1 23 (cellsB q).toArray); clear hb1)
    | (refine wpList_load_row rfl 23 (.tmp 7) rfl w1.heap.size rfl 23 (cellsB q).toArray (0, 0) _ Q1.out under_key rfl (cellsB_size _ HRL.out) ?_)
    | (refine wpList_load_row rfl 23 (.tmp 3) rfl w.heap.size rfl 23 (cellsB root).toArray (0, 0) _ R1.out under_key rfl (cellsB_size _ HR.out) ?_))
  go_ret
  exact ⟨rfl, bel_on B1.out (alloc_bel w1 _)⟩

end Go.Proofs.YtchnaimpmegbkaaGreatDoor

/- Halves and copies: the program's and the reference's. -/
namespace Go.Proofs.YtchnaimpmegbkaaGreatDoor
open Go.RowKit
set_option linter.unusedVariables false
set_option linter.unusedSimpArgs false

/-- The greatest of the first k symbols. -/
def mxB (l : List UInt8) (k : Nat) : Nat := (l.take k).foldl (fun a c => max a c.toNat) 0
theorem mxB_succ {l : List UInt8} {k : Nat} (h : k < l.length) : mxB l (k + 1) = max (mxB l k) (bt l k) := by
  unfold mxB
  rw [List.take_succ_eq_append_getElem h, List.foldl_append, bt_in h]; rfl
theorem mxB_le {l : List UInt8} {k m : Nat} (h : k ≤ l.length) : mxB l k ≤ m ↔ ∀ i, i < k → bt l i ≤ m := by
  induction k with
  | zero => simp [mxB]
  | succ k ih =>
    rw [mxB_succ (by omega)]
    have := ih (by omega)
    constructor
    · intro hm i hi
      rcases Nat.lt_or_ge i k with h' | h'
      · exact this.1 (by omega) i h'
      · rw [show i = k from by omega]; omega
    · intro hm
      have h1 := this.2 fun i hi => hm i (by omega)
      have h2 := hm k (by omega)
      omega
theorem mxB_255 {l : List UInt8} {k : Nat} (h : k ≤ l.length) : mxB l k ≤ 255 := (mxB_le h).2 fun i _ => by have := bt_lt l i; omega
/-- From 1 to 64 symbols, all of them at most m. -/
def halfB (l : List UInt8) (m : Nat) : Bool := decide (1 ≤ l.length ∧ l.length ≤ 64) && symB l m
theorem halfB_iff {l : List UInt8} {m : Nat} : halfB l m = true ↔ (1 ≤ l.length ∧ l.length ≤ 64) ∧ symB l m = true := by simp [halfB]

set_option maxHeartbeats 2000000 in
theorem max_any (A : Option Addr) (c : Nat) (l : List UInt8) (w : World) {n : Nat} (hn : l.length = n) (h0 : 1 ≤ n) (h : BR w A c l) :
    Calls Tryz.prog 66 #[.slice A n c] w fun e w' => e = .returned (.int .u8 (mxB l n : Int)) ∧ w = w' := by
  have hlen : (n : Int) ≤ 140737488351232 := by have := h.len; omega
  have h0i : (1 : Int) ≤ n := by omega
  have HN := Lib.hid hn
  have H := Lib.hid h
  obtain ⟨b, off, hA, hb, hc0⟩ := h.at_ (i := 0) (by omega)
  subst hA
  have HB : Hid (∀ i, i < n → w.cell? ⟨b, off + i, none⟩ = some (.int .u8 (bt l i : Int))) := fun i hi => by
    obtain ⟨b', off', e, _, hc⟩ := H.out.at_ (i := i) (by have := HN.out; omega)
    injection e with e
    injection e with e1 e2
    subst e1 e2
    exact hc
  have c0 : w.cell? ⟨b, off, none⟩ = some (.int .u8 (bt l 0 : Int)) := hc0
  have H1 : Hid (mxB l 1 = bt l 0) := by unfold Hid; rw [mxB_succ (by omega)]; simp [mxB]
  clear hn h hc0
  go_enter Tryz.func66, Tryz.ntmps66
  go_wp2_with fail
  go_loop [3, 4] (fun vm vk => ∃ (k M : Nat), 1 ≤ k ∧ k ≤ n ∧ vk = .int .i64 (k : Int) ∧ vm = .int .u8 (M : Int) ∧ Hid (mxB l k = M)) (fun _ vk => n - (intOf vk).toNat)
  case atStart => exact ⟨1, bt l 0, by omega, h0, rfl, rfl, H1.out⟩
  case round =>
    obtain ⟨k, M, hk1, hk, rfl, rfl, HM⟩ := hrel
    by_cases hkn : k < n
    · have hc := HB.out k hkn
      have hki : (k : Int) < n := by omega
      have HM2 : Hid (mxB l (k + 1) = max M (bt l k)) := by unfold Hid; rw [mxB_succ (by have := HN.out; omega), HM.out]
      obtain ⟨x, hx⟩ : ∃ x, bt l k = x := ⟨_, rfl⟩
      rw [hx] at hc HM2
      clear hx
      go_wp2_with fail
      go_round
      case rel => exact ⟨k + 1, max M x, by omega, by omega, by go_num, by first | rfl | (congr 1; omega), HM2.out⟩
      case measure => simp [intOf]; omega
    · obtain rfl : k = n := by omega
      have hki : (k : Int) ≤ k := Int.le_refl _
      go_wp2_with fail
      go_ret
      exact ⟨by rw [HM.out]; rfl, rfl⟩

set_option maxHeartbeats 2000000 in
theorem auditSyms_any (A : Option Addr) (c : Nat) (l : List UInt8) (m : Nat) (w : World) {n : Nat} (hn : l.length = n) (h : BR w A c l) (hm : m ≤ 255) :
    Calls Tryz.prog 30 #[.slice A n c, .int .u8 (m : Int)] w fun e w' => e = .returned (.bool (halfB l m)) ∧ w = w' := by
  have hlen : (n : Int) ≤ 140737488351232 := by have := h.len; omega
  rcases (by omega : n < 1 ∨ 64 < n ∨ (1 ≤ n ∧ n ≤ 64)) with h1 | h1 | ⟨h1, h2⟩
  · have HF : Hid (halfB l m = false) := by unfold Hid halfB; rw [hn, decide_eq_false (by omega)]; rfl
    have s0 : decide ((1 : Int) ≤ (n : Int)) = false := decide_eq_false (by omega)
    have s1 : decide (1 ≤ n) = false := decide_eq_false (by omega)
    clear hn h h1
    go_enter Tryz.func30, Tryz.ntmps30
    go_wp2_with fail
    go_ret
    exact ⟨by rw [HF.out]; rfl, rfl⟩
  · have HF : Hid (halfB l m = false) := by unfold Hid halfB; rw [hn, decide_eq_false (by omega)]; rfl
    have s0 : decide ((1 : Int) ≤ (n : Int)) = true := decide_eq_true (by omega)
    have s1 : decide (1 ≤ n) = true := decide_eq_true (by omega)
    have s2 : decide ((n : Int) ≤ 64) = false := decide_eq_false (by omega)
    have s3 : decide (n ≤ 64) = false := decide_eq_false (by omega)
    clear hn h h1
    go_enter Tryz.func30, Tryz.ntmps30
    go_wp2_with fail
    go_ret
    exact ⟨by rw [HF.out]; rfl, rfl⟩
  · have HF : Hid (halfB l m = symB l m) := by unfold Hid halfB; rw [hn, decide_eq_true ⟨h1, h2⟩]; rfl
    have s0 : decide ((1 : Int) ≤ (n : Int)) = true := decide_eq_true (by omega)
    have s1 : decide (1 ≤ n) = true := decide_eq_true (by omega)
    have s2 : decide ((n : Int) ≤ 64) = true := decide_eq_true (by omega)
    have s3 : decide (n ≤ 64) = true := decide_eq_true (by omega)
    have HX := Lib.hid (max_any A c l w hn h1 h)
    have HS : Hid (decide ((mxB l n : Int) ≤ (m : Int)) = symB l m) := by
      unfold Hid
      have e := mxB_le (l := l) (k := n) (m := m) (by omega)
      rw [← hn, ← symB_iff, hn] at e
      cases hs : symB l m with
      | true => exact decide_eq_true (by have := e.2 hs; omega)
      | false => exact decide_eq_false (fun hle => by have := e.1 (by omega); rw [hs] at this; cases this)
    have hx := mxB_255 (l := l) (k := n) (by omega)
    obtain ⟨M, hM⟩ : ∃ M, mxB l n = M := ⟨_, rfl⟩
    rw [hM] at HX HS hx
    have hmi : (m : Int) ≤ 255 := by omega
    have hxi : (M : Int) ≤ 255 := by omega
    clear hn h h1 h2 hM
    cases hs : symB l m with
    | true =>
      rw [hs] at HS HF
      have t0 := HS.out
      have t1 : decide (M ≤ m) = true := decide_eq_true (by have := of_decide_eq_true HS.out; omega)
      clear hs
      go_enter Tryz.func30, Tryz.ntmps30
      go_wp2_with (go_at_call 66; refine HX.out.mono ?_; rintro e w' ⟨rfl, rfl⟩)
      go_ret
      exact ⟨by rw [HF.out]; rfl, rfl⟩
    | false =>
      rw [hs] at HS HF
      have t0 := HS.out
      have t1 : decide (M ≤ m) = false := decide_eq_false (by have := of_decide_eq_false HS.out; omega)
      clear hs
      go_enter Tryz.func30, Tryz.ntmps30
      go_wp2_with (go_at_call 66; refine HX.out.mono ?_; rintro e w' ⟨rfl, rfl⟩)
      go_ret
      exact ⟨by rw [HF.out]; rfl, rfl⟩

end Go.Proofs.YtchnaimpmegbkaaGreatDoor

/- Commitments: the program's and the reference's. -/
namespace Go.Proofs.YtchnaimpmegbkaaGreatDoor
open Go.RowKit
set_option linter.unusedVariables false
set_option linter.unusedSimpArgs false
attribute [local go_sem] run_storeCells_key run_storeCells_new

/-- The text of an opening. -/
def openT (half nonce : List UInt8) : List UInt8 := [2] ++ nonce ++ half
theorem openT_length (half nonce : List UInt8) (h : nonce.length = 16) : (openT half nonce).length = half.length + 17 := by simp [openT, h]; omega
/-- A commitment, or the error. -/
def cmS (half nonce : List UInt8) : List UInt8 × Int := if halfB half 1 = true then (digS (openT half nonce), 0) else (zeroK, 2)
set_option maxHeartbeats 4000000 in
set_option maxRecDepth 100000 in
theorem commit_any (half nonce : List UInt8) (A : Option Addr) (c : Nat) (w : World) {n : Nat} (hn : half.length = n) (hs : n ≤ 1000) (hk : nonce.length = 16) (h : BR w A c half) :
    Calls Tryz.prog 63 #[.slice A n c, .agg (cellsB nonce).toArray] w fun e w' => e = .returned (.agg (cellsB (digS (openT half nonce))).toArray) ∧ Below w.heap.size w w' := by
  have HZ := Lib.hid zero16
  have HK := Lib.hid hk
  have b0 := alloc2_bel w (.cells (cellsB nonce).toArray 23) (.cells (cellsB zeroK).toArray 23)
  have C0 := Lib.hid (blk_b0 w (cellsB nonce).toArray 23 (.cells (cellsB zeroK).toArray 23))
  have Z0 := Lib.hid (blk_b1 w (.cells (cellsB nonce).toArray 23) (cellsB zeroK).toArray 23)
  obtain ⟨W0, hW0⟩ : ∃ W, W = (w.alloc (.cells (cellsB nonce).toArray 23)).alloc (.cells (cellsB zeroK).toArray 23) := ⟨_, rfl⟩
  have hz0 : W0.heap.size = w.heap.size + 1 + 1 := by rw [hW0]; simp
  have HC : Hid (Calls Tryz.prog 69 #[.slice (some ⟨w.heap.size + 1 + 1 + 1, 0, none⟩) 3 3] ((W0.alloc (.cells #[.int .u8 2] 5)).alloc (.cells #[.slice (some ⟨w.heap.size + 1 + 1, 0, none⟩) 1 1, .slice (some ⟨w.heap.size, 0, none⟩) 16 16, .slice A n c] 31)) fun e w' => (∃ X x, e = .returned (.slice X (n + 17) x) ∧ BR w' X x (openT half nonce)) ∧ Below W0.heap.size W0 w') := by
    rw [← hW0] at b0 C0 Z0
    obtain ⟨rs, hrs⟩ : ∃ rs : List BRow, rs = [⟨some ⟨w.heap.size + 1 + 1, 0, none⟩, 1, [2]⟩, ⟨some ⟨w.heap.size, 0, none⟩, 16, nonce⟩, ⟨A, c, half⟩] := ⟨_, rfl⟩
    have hrl : rs.length = 3 := by rw [hrs]; rfl
    have hcat : catL rs 3 = openT half nonce := by rw [hrs]; simp [catL, openT]
    have hcells : (rs.map BRow.v).toArray = #[.slice (some ⟨w.heap.size + 1 + 1, 0, none⟩) 1 1, .slice (some ⟨w.heap.size, 0, none⟩) 16 16, .slice A n c] := by rw [hrs]; simp [BRow.v, hn, hk]
    rw [← hcells]
    have N1 : Blk (W0.alloc (.cells #[.int .u8 2] 5)) (w.heap.size + 1 + 1) 5 (cellsB [2]).toArray := by rw [← hz0]; exact Blk.new W0 _ _
    have N2 : Blk ((W0.alloc (.cells #[.int .u8 2] 5)).alloc (.cells (rs.map BRow.v).toArray 31)) (w.heap.size + 1 + 1 + 1) 31 (rs.map BRow.v).toArray := by
      have := Blk.new (W0.alloc (.cells #[.int .u8 2] 5)) 31 (rs.map BRow.v).toArray
      rwa [show (W0.alloc (.cells #[.int .u8 2] 5)).heap.size = w.heap.size + 1 + 1 + 1 from by simp [hz0]] at this
    have bb := alloc2_bel W0 (.cells #[.int .u8 2] 5) (.cells (rs.map BRow.v).toArray 31)
    have hRR : RR ((W0.alloc (.cells #[.int .u8 2] 5)).alloc (.cells (rs.map BRow.v).toArray 31)) (some ⟨w.heap.size + 1 + 1 + 1, 0, none⟩) 3 rs := by
      refine ⟨⟨⟨by rw [List.length_map, Nat.mul_one], by omega, by omega, by omega⟩, fun _ => ⟨w.heap.size + 1 + 1 + 1, 0, rfl, N2.lt, fun j v hv => ?_⟩⟩, fun r hr => ?_⟩
      · rw [Nat.zero_add, N2.cell j]
        simpa using hv
      · rw [hrs] at hr
        simp only [List.mem_cons, List.not_mem_nil, or_false] at hr
        rcases hr with rfl | rfl | rfl
        · exact (N1.alloc _).brn (n := 1) rfl (by omega)
        · exact (C0.out.below' bb).brn (n := 16) hk (by omega)
        · exact (h.below b0).below bb
    refine (Concat_any (some ⟨w.heap.size + 1 + 1 + 1, 0, none⟩) 3 rs _ hrl hRR (N := n + 17) (by rw [hcat, openT_length _ _ hk, hn]) (by omega) (by omega)).mono ?_
    rintro e w5 ⟨⟨A5, c5, rfl, ho5⟩, hb5⟩
    rw [hcat] at ho5
    exact ⟨⟨A5, c5, rfl, ho5.br (by rw [openT_length _ _ hk]; omega)⟩, bel_on bb hb5⟩
  have HD : Hid (∀ X x W, BR W X x (openT half nonce) → Calls Tryz.prog 68 #[.slice X (n + 17) x] W fun e w' => e = .returned (.agg (cellsB (digS (openT half nonce))).toArray) ∧ Below W.heap.size W w') := fun X x W hX => digest_any (openT half nonce) X x W (by rw [openT_length _ _ hk, hn]) hX (by omega)
  have HDL := Lib.hid (digS_length (openT half nonce))
  generalize digS (openT half nonce) = d at HD HDL ⊢
  have hdc : (cellsB d).length = 16 := by rw [cellsB_length, HDL.out]
  have hall := all16 d
  have HW0 := Lib.hid hW0
  rw [← hW0] at b0 C0 Z0
  clear hn hs hk h hW0 hz0
  go_enter Tryz.func63, Tryz.ntmps63
  go_wp2_with (first
    | (go_at_call 69; rw [HZ.out, ← HW0.out]; refine HC.out.mono ?_; rintro e w3 ⟨⟨X, x, rfl, hx⟩, hb3⟩; have HX := Lib.hid hx; have B3 := bel_on b0 hb3; have Z3 := Lib.hid (Z0.out.below' hb3); clear hx hb3)
    | (go_at_call 68; refine (HD.out _ _ _ HX.out).mono ?_; rintro e w4 ⟨rfl, hb4⟩; have B4 := bel_on B3 hb4; have Q4 := Z3.out.below' hb4; have hr1 : (rowAt w4 (w.heap.size + 1)).size = 16 := (by rw [Q4.row]; rfl); have hf1 := Q4.free; have HQ4 := Lib.hid Q4; clear Q4 hb4))
  exact bodyPost_ret (results_cell_row rfl _ _ (w.heap.size + 1) _ _ (0, 0) _ rfl (HQ4.out.setRow (cellsB d).toArray) under_key rfl (cellsB_size _ HDL.out)) rfl ⟨rfl, below_setRow B4 (by omega) _⟩

set_option maxHeartbeats 4000000 in
set_option maxRecDepth 100000 in
theorem Commit_any (half nonce : List UInt8) (A : Option Addr) (c : Nat) (w : World) {n : Nat} (hn : half.length = n) (hk : nonce.length = 16) (h : BR w A c half) :
    Calls Tryz.prog 27 #[.slice A n c, .agg (cellsB nonce).toArray] w fun e w' => e = .returned (.tuple #[.agg (cellsB (cmS half nonce).1).toArray, .int .i64 (cmS half nonce).2]) ∧ Below w.heap.size w w' := by
  have HZ := Lib.hid zero16
  have HK := Lib.hid hk
  have b0 := alloc2_bel w (.cells (cellsB nonce).toArray 23) (.cells (cellsB zeroK).toArray 23)
  have C0 := Lib.hid (blk_b0 w (cellsB nonce).toArray 23 (.cells (cellsB zeroK).toArray 23))
  have Z0 := Lib.hid (blk_b1 w (.cells (cellsB nonce).toArray 23) (cellsB zeroK).toArray 23)
  have HS1 : Hid (∀ W, Below w.heap.size w W → Calls Tryz.prog 30 #[.slice A n c, .int .u8 1] W fun e w' => e = .returned (.bool (halfB half 1)) ∧ W = w') := fun W hW => auditSyms_any A c half 1 W hn (h.below hW) (by omega)
  cases hv : halfB half 1 with
  | false =>
    have HS : Hid (cmS half nonce = (zeroK, 2)) := by unfold Hid cmS; rw [hv]; rfl
    rw [hv] at HS1
    have hdc : (cellsB zeroK).length = 16 := rfl
    have hall := all16 zeroK
    have Q1 := Z0.out
    have hr1 : (rowAt ((w.alloc (.cells (cellsB nonce).toArray 23)).alloc (.cells (cellsB zeroK).toArray 23)) (w.heap.size + 1)).size = 16 := by rw [Q1.row]; rfl
    have hf1 := Q1.free
    clear hn hk h hv Q1
    go_enter Tryz.func27, Tryz.ntmps27
    go_wp2_with (first
      | (go_at_call 30; rw [HZ.out]; refine (HS1.out _ b0).mono ?_; rintro e w1 ⟨rfl, rfl⟩)
      | ((first | rw [HZ.out] | skip); refine wpList_buildTo rfl 23 #[] rfl (some 9) rfl (cellsB zeroK).toArray (by kernel_rfl) ?_))
    refine bodyPost_ret (v := .tuple #[.agg (cellsB zeroK).toArray, .int .i64 2]) ?_ rfl ⟨by rw [HS.out], below_setRow b0 (by omega) _⟩
    rw [results_cell_tmp Tryz.results27]
    simp [asAddr, Result.andThen, run_loadVar_row _ (w.heap.size + 1) _ _ _ (0, 0) _ (Z0.out.setRow (cellsB zeroK).toArray) under_key rfl (cellsB_size _ rfl)]
  | true =>
    have hl : n ≤ 64 := by rw [← hn]; exact (halfB_iff.1 hv).1.2
    have HS : Hid (cmS half nonce = (digS (openT half nonce), 0)) := by unfold Hid cmS; rw [if_pos hv]
    rw [hv] at HS1
    have HD : Hid (∀ W, Below w.heap.size w W → Calls Tryz.prog 63 #[.slice A n c, .agg (cellsB nonce).toArray] W fun e w' => e = .returned (.agg (cellsB (digS (openT half nonce))).toArray) ∧ Below W.heap.size W w') := fun W hW => commit_any half nonce A c W hn (by omega) hk (h.below hW)
    have HDL := Lib.hid (digS_length (openT half nonce))
    generalize digS (openT half nonce) = d at HD HDL HS
    have hdc : (cellsB d).length = 16 := by rw [cellsB_length, HDL.out]
    have hall := all16 d
    clear hn hk h hv hl
    go_enter Tryz.func27, Tryz.ntmps27
    go_wp2_with (first
      | (go_at_call 30; rw [HZ.out]; refine (HS1.out _ b0).mono ?_; rintro e w1 ⟨rfl, rfl⟩)
      | ((first | rw [HZ.out] | skip); refine wpList_load_row rfl 23 (.tmp 3) rfl w.heap.size rfl 23 (cellsB nonce).toArray (0, 0) _ C0.out under_key rfl (cellsB_size _ HK.out) ?_)
      | (go_at_call 63; refine (HD.out _ b0).mono ?_; rintro e w2 ⟨rfl, hb2⟩; have b2 := bel_on b0 hb2; have Q2 := Z0.out.below' hb2; have hr1 : (rowAt w2 (w.heap.size + 1)).size = 16 := (by rw [Q2.row]; rfl); have hf1 := Q2.free; have HQ2 := Lib.hid Q2; clear Q2 hb2))
    refine bodyPost_ret (v := .tuple #[.agg (cellsB d).toArray, .int .i64 0]) ?_ rfl ⟨by rw [HS.out], below_setRow b2 (by omega) _⟩
    rw [results_cell_tmp Tryz.results27]
    simp [asAddr, Result.andThen, run_loadVar_row _ (w.heap.size + 1) _ _ _ (0, 0) _ (HQ2.out.setRow (cellsB d).toArray) under_key rfl (cellsB_size _ HDL.out)]

end Go.Proofs.YtchnaimpmegbkaaGreatDoor

/- Revocation lists in plain words: validity, merging, pruning. -/
namespace Go.Proofs.YtchnaimpmegbkaaGreatDoor
set_option linter.unusedVariables false

end Go.Proofs.YtchnaimpmegbkaaGreatDoor

/- The leaves of revocation lists in plain words, and what an accepted proof of absence says. -/
namespace Go.Proofs.YtchnaimpmegbkaaGreatDoor
set_option linter.unusedVariables false

end Go.Proofs.YtchnaimpmegbkaaGreatDoor

/- When a proof of absence is accepted, in plain words. -/
namespace Go.Proofs.YtchnaimpmegbkaaGreatDoor
set_option linter.unusedVariables false

theorem rangeOf {w : World} {g : Nat} {t : TypeId} {cs : Array Value} (h : Blk w g t cs) (o : Nat) (xs : List Value) (hx : (cs.toList.drop o).take xs.length = xs) : w.rangeAt g o xs := fun j v hv => by
  rw [h.cell, ← Array.getElem?_toList]
  have hj : j < xs.length := by
    rcases Nat.lt_or_ge j xs.length with h' | h'
    · exact h'
    · rw [List.getElem?_eq_none h'] at hv; cases hv
  rw [← hv, ← hx, List.getElem?_take, if_pos hj, List.getElem?_drop]
end Go.Proofs.YtchnaimpmegbkaaGreatDoor

/- Cases in memory, and the verdict on them in plain words. -/
namespace Go.Proofs.YtchnaimpmegbkaaGreatDoor
open Go.RowKit
set_option linter.unusedVariables false
set_option linter.unusedSimpArgs false

structure CV where
  root : List UInt8
  com : List UInt8
  a : Int
  b : Int
  P : List (List UInt8)
  cp : List UInt8
  need : Int
  op : Bool
  half : List UInt8
  nonce : List UInt8
def caseM (v : CV) (A : Option Addr) (m c : Nat) (Y : Option Addr) (n y : Nat) (H : Option Addr) (k h : Nat) : List Value := [.int .i64 v.a, .int .i64 v.b, .slice A m c, .slice Y n y, .int .i64 v.need, .bool v.op, .slice H k h]
/-- The cells of a case. -/
def caseC (v : CV) (A : Option Addr) (m c : Nat) (Y : Option Addr) (n y : Nat) (H : Option Addr) (k h : Nat) : List Value := cellsB v.root ++ (cellsB v.com ++ (caseM v A m c Y n y H k h ++ cellsB v.nonce))
/-- What a case holds. -/
structure CaseOK (w : World) (v : CV) (A : Option Addr) (m c : Nat) (Y : Option Addr) (n y : Nat) (H : Option Addr) (k h : Nat) : Prop where
  r16 : v.root.length = 16
  c16 : v.com.length = 16
  n16 : v.nonce.length = 16
  hm : v.P.length = m
  hn : v.cp.length = n
  hk : v.half.length = k
  P : KR w A c v.P
  cp : BR w Y y v.cp
  half : BR w H h v.half
theorem CaseOK.below {w w' : World} {v : CV} {A : Option Addr} {m c : Nat} {Y : Option Addr} {n y : Nat} {H : Option Addr} {k h : Nat} (g : CaseOK w v A m c Y n y H k h) (hb : Below w.heap.size w w') : CaseOK w' v A m c Y n y H k h :=
  ⟨g.r16, g.c16, g.n16, g.hm, g.hn, g.hk, g.P.below hb, g.cp.below hb, g.half.below hb⟩
theorem caseC_length {v : CV} {A : Option Addr} {m c : Nat} {Y : Option Addr} {n y : Nat} {H : Option Addr} {k h : Nat} (h1 : v.root.length = 16) (h2 : v.com.length = 16) (h3 : v.nonce.length = 16) : (caseC v A m c Y n y H k h).length = 55 := by
  simp [caseC, caseM, cellsB_length, h1, h2, h3]
/-- The parts of a case's box. -/
structure Box (w : World) (g : Nat) (v : CV) (A : Option Addr) (m c : Nat) (Y : Option Addr) (n y : Nat) (H : Option Addr) (k h : Nat) : Prop where
  root : w.rangeAt g 0 (cellsB v.root)
  com : w.rangeAt g 16 (cellsB v.com)
  pr : w.rangeAt g 32 [.int .i64 v.a, .int .i64 v.b, .slice A m c]
  c35 : w.cell? ⟨g, 35, none⟩ = some (.slice Y n y)
  c36 : w.cell? ⟨g, 36, none⟩ = some (.int .i64 v.need)
  c37 : w.cell? ⟨g, 37, none⟩ = some (.bool v.op)
  c38 : w.cell? ⟨g, 38, none⟩ = some (.slice H k h)
  nonce : w.rangeAt g 39 (cellsB v.nonce)
theorem box_of {w : World} {g : Nat} {t : TypeId} {v : CV} {A : Option Addr} {m c : Nat} {Y : Option Addr} {n y : Nat} {H : Option Addr} {k h : Nat} (hB : Blk w g t (caseC v A m c Y n y H k h).toArray) (h1 : v.root.length = 16) (h2 : v.com.length = 16) (h3 : v.nonce.length = 16) : Box w g v A m c Y n y H k h := by
  have d1 : (caseC v A m c Y n y H k h).drop 16 = cellsB v.com ++ (caseM v A m c Y n y H k h ++ cellsB v.nonce) := List.drop_left' (by rw [cellsB_length, h1])
  have d2 : (caseC v A m c Y n y H k h).drop 32 = caseM v A m c Y n y H k h ++ cellsB v.nonce := by
    rw [show 32 = 16 + 16 from rfl, ← List.drop_drop, d1]
    exact List.drop_left' (by rw [cellsB_length, h2])
  have d3 : (caseC v A m c Y n y H k h).drop 39 = cellsB v.nonce := by
    rw [show 39 = 32 + 7 from rfl, ← List.drop_drop, d2]
    exact List.drop_left' rfl
  have mid : w.rangeAt g 32 (caseM v A m c Y n y H k h) := rangeOf hB 32 _ (by rw [d2]; exact List.take_left)
  refine ⟨rangeOf hB 0 _ ?_, rangeOf hB 16 _ ?_, rangeOf hB 32 _ ?_, mid 3 _ rfl, mid 4 _ rfl, mid 5 _ rfl, mid 6 _ rfl, rangeOf hB 39 _ ?_⟩
  · rw [List.drop_zero]; exact List.take_left
  · rw [d1]; exact List.take_left
  · rw [d2]; rfl
  · rw [d3]; exact List.take_length
theorem case_info {v : CV} {A : Option Addr} {m c : Nat} {Y : Option Addr} {n y : Nat} {H : Option Addr} {k h : Nat} (h1 : v.root.length = 16) (h2 : v.com.length = 16) (h3 : v.nonce.length = 16) : (Tryz.prog.info? 43).map (·.size) = some (caseC v A m c Y n y H k h).toArray.size := by
  rw [List.size_toArray, caseC_length h1 h2 h3]; kernel_rfl
/-- In how many places two lists of symbols agree. -/
def agreeN (x y : List UInt8) (i : Nat) : Nat := sumA x y i
where sumA (x y : List UInt8) : Nat → Nat
  | 0 => 0
  | i + 1 => sumA x y i + if bt x i = bt y i then 1 else 0
theorem agreeN_yes {x y : List UInt8} {i : Nat} (h : bt x i = bt y i) : agreeN x y (i + 1) = agreeN x y i + 1 := by
  show agreeN.sumA x y i + (if bt x i = bt y i then 1 else 0) = _
  rw [if_pos h]; rfl
theorem agreeN_no {x y : List UInt8} {i : Nat} (h : ¬ bt x i = bt y i) : agreeN x y (i + 1) = agreeN x y i := by
  show agreeN.sumA x y i + (if bt x i = bt y i then 1 else 0) = _
  rw [if_neg h]; rfl
theorem agreeN_le (x y : List UInt8) (i : Nat) : agreeN x y i ≤ i := by
  induction i with
  | zero => exact Nat.le_refl _
  | succ i ih =>
    by_cases h : bt x i = bt y i
    · rw [agreeN_yes h]; omega
    · rw [agreeN_no h]; omega
def givesB (v : CV) : Bool := (climbS v.com v.a.toNat v.b.toNat v.P).1 == v.root
def opensB (v : CV) : Bool := v.op && (decide (v.half.length = v.cp.length) && (halfB v.half 1 && (digS (openT v.half v.nonce) == v.com)))
def agreesB (v : CV) : Bool := decide (v.need ≤ (agreeN v.half v.cp v.cp.length : Int))
def fitB (v : CV) : Bool := halfB v.cp 2 && (decide (1 ≤ v.need) && (decide (v.need ≤ (v.cp.length : Int)) && fitsB v.a v.b v.P.length))
/-- The verdict on a case, or the error. -/
def judgeS (v : CV) : Int × Int := if fitB v = false then (0, 8) else if givesB v = false then (1, 0) else if opensB v = false then (2, 0) else if agreesB v = true then (3, 0) else (4, 0)
end Go.Proofs.YtchnaimpmegbkaaGreatDoor

/- A case, made of its parts. -/
namespace Go.Proofs.YtchnaimpmegbkaaGreatDoor
open Go.RowKit
set_option linter.unusedVariables false

theorem fill_app (place : Nat → Option (Nat × Nat)) (pre mid post vs : List Value) (i off size : Nat) (v : Value) (rest : List (Nat × Value)) (hp : place i = some (off, size)) (hv : v.cells = vs.toArray) (h1 : pre.length = off) (h2 : mid.length = size) (h3 : vs.length = size) :
    Instr.fill place (pre ++ (mid ++ post)).toArray ((i, v) :: rest) = Instr.fill place ((pre ++ vs) ++ post).toArray rest := by
  rw [fill_step place _ i off size v vs rest hp hv h3 (by simp; omega)]
  have e1 : (pre ++ (mid ++ post)).take off = pre := by rw [← h1]; exact List.take_left
  have e2 : (pre ++ (mid ++ post)).drop (off + size) = post := by
    rw [← h1, ← h2, ← List.append_assoc, ← List.length_append]; exact List.drop_left
  show Instr.fill place ((pre ++ (mid ++ post)).take off ++ (vs ++ (pre ++ (mid ++ post)).drop (off + size))).toArray rest = _
  rw [e1, e2, List.append_assoc]
set_option maxRecDepth 100000 in
theorem built_case (v : CV) (A : Option Addr) (m c : Nat) (Y : Option Addr) (n y : Nat) (H : Option Addr) (k h : Nat) (h1 : v.root.length = 16) (h2 : v.com.length = 16) (h3 : v.nonce.length = 16) :
    Tryz.prog.built 43 [(0, .agg (cellsB v.root).toArray), (1, .agg (cellsB v.com).toArray), (2, .agg #[.int .i64 v.a, .int .i64 v.b, .slice A m c]), (3, .slice Y n y), (4, .int .i64 v.need), (5, .bool v.op), (6, .slice H k h), (7, .agg (cellsB v.nonce).toArray)] = some (caseC v A m c Y n y H k h).toArray := by
  have r1 : (cellsB v.root).length = 16 := by rw [cellsB_length, h1]
  have r2 : (cellsB v.com).length = 16 := by rw [cellsB_length, h2]
  have r3 : (cellsB v.nonce).length = 16 := by rw [cellsB_length, h3]
  have e : Tryz.prog.built 43 [(0, .agg (cellsB v.root).toArray), (1, .agg (cellsB v.com).toArray), (2, .agg #[.int .i64 v.a, .int .i64 v.b, .slice A m c]), (3, .slice Y n y), (4, .int .i64 v.need), (5, .bool v.op), (6, .slice H k h), (7, .agg (cellsB v.nonce).toArray)] = Instr.fill ((#[(0, 16), (16, 16), (32, 3), (35, 1), (36, 1), (37, 1), (38, 1), (39, 16)] : Array (Nat × Nat))[·]?) (([] : List Value) ++ ((cellsB zeroK : List Value) ++ ((cellsB zeroK : List Value) ++ ([Value.int .i64 0, Value.int .i64 0, Value.slice none 0 0] ++ ([Value.slice none 0 0] ++ ([Value.int .i64 0] ++ ([Value.bool false] ++ ([Value.slice none 0 0] ++ (cellsB zeroK ++ []))))))))).toArray [(0, .agg (cellsB v.root).toArray), (1, .agg (cellsB v.com).toArray), (2, .agg #[.int .i64 v.a, .int .i64 v.b, .slice A m c]), (3, .slice Y n y), (4, .int .i64 v.need), (5, .bool v.op), (6, .slice H k h), (7, .agg (cellsB v.nonce).toArray)] := by kernel_rfl
  refine e.trans ?_
  refine (fill_app _ [] (cellsB zeroK) _ (cellsB v.root) 0 0 16 _ _ rfl rfl rfl rfl r1).trans ?_
  refine (fill_app _ _ (cellsB zeroK) _ (cellsB v.com) 1 16 16 _ _ rfl rfl (by simp [r1]) rfl r2).trans ?_
  refine (fill_app _ _ [.int .i64 0, .int .i64 0, .slice none 0 0] _ [.int .i64 v.a, .int .i64 v.b, .slice A m c] 2 32 3 _ _ rfl rfl (by simp [r1, r2]) rfl rfl).trans ?_
  refine (fill_app _ _ [.slice none 0 0] _ [.slice Y n y] 3 35 1 _ _ rfl rfl (by simp [r1, r2]) rfl rfl).trans ?_
  refine (fill_app _ _ [.int .i64 0] _ [.int .i64 v.need] 4 36 1 _ _ rfl rfl (by simp [r1, r2]) rfl rfl).trans ?_
  refine (fill_app _ _ [.bool false] _ [.bool v.op] 5 37 1 _ _ rfl rfl (by simp [r1, r2]) rfl rfl).trans ?_
  refine (fill_app _ _ [.slice none 0 0] _ [.slice H k h] 6 38 1 _ _ rfl rfl (by simp [r1, r2]) rfl rfl).trans ?_
  refine (fill_app _ _ (cellsB zeroK) _ (cellsB v.nonce) 7 39 16 _ _ rfl rfl (by simp [r1, r2]) rfl r3).trans ?_
  rw [Instr.fill]
  refine congrArg (fun l => some (List.toArray l)) ?_
  simp [caseC, caseM]
theorem caseC_all (v : CV) (A : Option Addr) (m c : Nat) (Y : Option Addr) (n y : Nat) (H : Option Addr) (k h : Nat) : (caseC v A m c Y n y H k h).all (·.oneCell') = true := by
  rw [List.all_eq_true]
  intro x hx
  rw [caseC, List.mem_append, List.mem_append, List.mem_append] at hx
  rcases hx with hx | hx | hx | hx
  · exact cells_one v.root x hx
  · exact cells_one v.com x hx
  · simp only [caseM, List.mem_cons, List.not_mem_nil, or_false] at hx
    rcases hx with rfl | rfl | rfl | rfl | rfl | rfl | rfl <;> rfl
  · exact cells_one v.nonce x hx
end Go.Proofs.YtchnaimpmegbkaaGreatDoor

/- A list of keys, made of its keys. -/
namespace Go.Proofs.YtchnaimpmegbkaaGreatDoor
open Go.RowKit
set_option linter.unusedVariables false

def keyParts (ks : List (List UInt8)) (i : Nat) : List (Nat × Value) := (ks.zipIdx i).map fun x => (x.2, .agg (cellsB x.1).toArray)
theorem fill_keys : ∀ (ks : List (List UInt8)) (pre post : List Value) (i : Nat), Keys16 ks → pre.length = i * 16 → post.length = ks.length * 16 →
    Instr.fill (fun i => some (i * 16, 16)) (pre ++ post).toArray (keyParts ks i) = some (pre ++ cellsK ks).toArray
  | [], pre, post, i, _, _, hp => by
    have : post = [] := List.length_eq_zero_iff.1 (by simpa using hp)
    subst this
    rfl
  | k :: ks, pre, post, i, h, h1, hp => by
    have hk : (cellsB k).length = 16 := by rw [cellsB_length, h k List.mem_cons_self]
    have hp' : post.length = ks.length * 16 + 16 := by rw [hp, List.length_cons]; omega
    have e : post = post.take 16 ++ post.drop 16 := (List.take_append_drop 16 post).symm
    rw [e]
    show Instr.fill _ (pre ++ (post.take 16 ++ post.drop 16)).toArray ((i, .agg (cellsB k).toArray) :: keyParts ks (i + 1)) = _
    rw [fill_app _ pre (post.take 16) (post.drop 16) (cellsB k) i (i * 16) 16 _ _ rfl rfl h1 (by rw [List.length_take]; omega) hk]
    rw [fill_keys ks (pre ++ cellsB k) (post.drop 16) (i + 1) (fun x hx => h x (List.mem_cons_of_mem _ hx)) (by rw [List.length_append, h1, hk]; omega) (by rw [List.length_drop]; omega)]
    have : cellsK (k :: ks) = cellsB k ++ cellsK ks := rfl
    rw [this, List.append_assoc]
theorem run_build_keys (w : World) (ks : List (List UInt8)) (h : Keys16 ks) {n : Nat} (hn : ks.length = n) (h0 : 0 < n) (h1 : n ≤ 1000) (parts : Array (Nat × Value)) (hp : parts.toList = keyParts ks 0) :
    (Instr.buildSlice 35 n parts).run Tryz.prog w = .ok (.slice (some ⟨w.heap.size, 0, none⟩) n n) (w.alloc (.cells (cellsK ks).toArray 23)) := by
  obtain ⟨i0, hi0, hz0, hz1, hz2⟩ := info_parts key_info3
  refine run_buildSlice (P := Tryz.prog) w 35 23 n parts (cellsK ks).toArray i0 (.agg (cellsB zeroK).toArray) Tryz.underlying35 hi0 hz0 (by rw [hz1]; omega) (by rw [hz1]; omega) ?_
  rw [hz1, hp]
  obtain ⟨z, hz, hzs⟩ : ∃ z, Array.map (fun x => (Value.agg (cellsB zeroK).toArray).cells[x % (Value.agg (cellsB zeroK).toArray).cells.size]!) (Array.range (n * 16)) = z ∧ z.size = n * 16 := ⟨_, rfl, by simp⟩
  rw [hz]
  have := fill_keys ks [] z.toList 0 h rfl (by rw [Array.length_toList, hzs, hn])
  simpa using this
theorem wpList_build_keys {ops : Array Oper} {rest : List Oper} {o : Oper} {a : Act} {w : World} {Q : Exit → Act → World → Prop} (hgd : o.guard = none) (n : Nat) (parts : Array (Nat × Operand)) (ho : o.op = .buildSlice 35 n parts) (ks : List (List UInt8)) (h : Keys16 ks) (hn : ks.length = n) (h0 : 0 < n) (h1 : n ≤ 1000)
    (hx : (parts.map fun (i, x) => (i, a.eval x)).toList = keyParts ks 0)
    (hh : wpList Tryz.prog ops Q rest (a.put o.dst (.slice (some ⟨w.heap.size, 0, none⟩) n n)) (w.alloc (.cells (cellsK ks).toArray 23))) : wpList Tryz.prog ops Q (o :: rest) a w :=
  wpList_plain hgd fun K hK => by
    unfold Oper.wp execOp
    rw [ho]
    simp only [Sem.run_bind, run_build_keys w ks h hn h0 h1 _ hx, Result.andThen_ok]
    exact hK _ _ hh
end Go.Proofs.YtchnaimpmegbkaaGreatDoor

/- A list of keys just made; the keys of a path. -/
namespace Go.Proofs.YtchnaimpmegbkaaGreatDoor
open Go.RowKit
set_option linter.unusedVariables false

theorem pathS_k16_ : ∀ (n : Nat) (l : List (List UInt8)) (i : Nat), l.length = n → ∀ k ∈ pathS l i, k.length = 16 := by
  intro n
  induction n using Nat.strongRecOn with
  | _ n ih =>
    intro l i hl k hk
    rcases Nat.lt_or_ge n 2 with h2 | h2
    · rw [pathS_one (by omega)] at hk; cases hk
    have s1 := splitS_lt h2
    have s2 := splitS_pos n
    by_cases hi : i < splitS n
    · rw [pathS_low (by omega) (by rw [hl]; exact hi), hl] at hk
      rcases List.mem_append.1 hk with hk | hk
      · exact ih (splitS n) s1 _ _ (by rw [List.length_take]; omega) k hk
      · rw [List.mem_singleton.1 hk]; exact rootS_length _
    · rw [pathS_high (by omega) (by rw [hl]; exact hi), hl] at hk
      rcases List.mem_append.1 hk with hk | hk
      · exact ih (n - splitS n) (by omega) _ _ (by rw [List.length_drop]; omega) k hk
      · rw [List.mem_singleton.1 hk]; exact rootS_length _
theorem pathS_kle_ : ∀ (n : Nat) (l : List (List UInt8)) (i : Nat), l.length = n → (pathS l i).length ≤ n := by
  intro n
  induction n using Nat.strongRecOn with
  | _ n ih =>
    intro l i hl
    rcases Nat.lt_or_ge n 2 with h2 | h2
    · rw [pathS_one (by omega)]; simp
    have s1 := splitS_lt h2
    have s2 := splitS_pos n
    by_cases hi : i < splitS n
    · rw [pathS_low (by omega) (by rw [hl]; exact hi), hl, List.length_append]
      have := ih (splitS n) s1 (l.take (splitS n)) i (by rw [List.length_take]; omega)
      simp only [List.length_cons, List.length_nil]; omega
    · rw [pathS_high (by omega) (by rw [hl]; exact hi), hl, List.length_append]
      have := ih (n - splitS n) (by omega) (l.drop (splitS n)) (i - splitS n) (by rw [List.length_drop]; omega)
      simp only [List.length_cons, List.length_nil]; omega
theorem keybox2_ (w : World) (c0 z0 : Array Value) (t0 : TypeId) {W : World} (hW : W = (w.alloc (.cells z0 t0)).setRow w.heap.size c0) : Below w.heap.size w W ∧ Blk W w.heap.size t0 c0 := by
  subst hW
  exact ⟨below_setRow (alloc_bel w _) (Nat.le_refl _) _, (Blk.new w _ _).setRow _⟩
end Go.Proofs.YtchnaimpmegbkaaGreatDoor
