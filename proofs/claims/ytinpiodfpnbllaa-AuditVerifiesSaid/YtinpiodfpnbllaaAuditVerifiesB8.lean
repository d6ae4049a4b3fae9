/-
  Lemmas and contracts, joined: part 8.
-/
import Derived.Test.YtinpiodfpnbllaaAuditVerifiesB7
set_option linter.unusedSimpArgs false
set_option linter.unusedVariables false
set_option linter.unnecessarySimpa false
/- The root that a path gives: the reference's. -/
namespace Go.Proofs.Ytinpiodfpnbllaa
open Go.RowKit
set_option linter.unusedVariables false
set_option linter.unusedSimpArgs false
attribute [local go_sem] run_storeCells_key run_storeCells_new

theorem TO.row {B : Nat} {w : World} {A : Option Addr} {c : Nat} {rs : List BRow} {ts : List (List UInt8)} (h : TO B w A c rs ts) {g : Nat} {cs : Array Value} (hb : Blk w g 23 cs) (cs' : Array Value) : TO B (w.setRow g cs') A c rs ts :=
  ⟨h.1, own_row_apart h.2.1 hb (by decide) cs', fun r hr => own_row_apart (h.2.2 r hr) hb (by decide) cs'⟩
theorem TO.snoc {B : Nat} {w w' : World} {A A' : Option Addr} {c c' : Nat} {rs : List BRow} {ts : List (List UInt8)} (h : TO B w A c rs ts) {X : Option Addr} {d : Nat} {t : List UInt8} (ho : OB B w X d t) (h' : RO B w' A' c' (rs ++ [⟨X, d, t⟩])) (hg : w.grownBy w' (Value.ownBlock (.slice A rs.length c))) : TO B w' A' c' (rs ++ [⟨X, d, t⟩]) (ts ++ [t]) :=
  ⟨by rw [List.map_append, h.1]; rfl, h', fun r hr => by
    rcases List.mem_append.1 hr with hr | hr
    · exact own_kept (h.2.2 r hr) h.2.1 (by decide) hg
    · rw [List.mem_singleton.1 hr]; exact own_kept ho h.2.1 (by decide) hg⟩

set_option maxHeartbeats 2000000 in
set_option maxRecDepth 100000 in
theorem refGiven_one (i : Nat) (leaf : List UInt8) (hl : leaf.length = 16) (path : List (List UInt8)) (m : Nat) (A : Option Addr) (c : Nat) (w : World) :
    Calls Try.prog 80 #[.agg (cellsB leaf).toArray, .int .i64 1, .int .i64 (i : Int), .slice A m c] w fun e w' => (∃ X x rs, e = .returned (.tuple #[.agg (cellsB (climbS leaf 1 i path).1).toArray, .slice X rs.length x]) ∧ TO w.heap.size w' X x rs (climbS leaf 1 i path).2) ∧ Below w.heap.size w w' := by
  rw [climbS_one _ (by omega)]
  have HZ := Lib.hid zero16
  have HK := Lib.hid hl
  have b0 := alloc2_bel w (.cells (cellsB leaf).toArray 23) (.cells (cellsB zeroK).toArray 23)
  have B0 := Lib.hid (blk_b0 w (cellsB leaf).toArray 23 (.cells (cellsB zeroK).toArray 23))
  have B1 := Lib.hid (blk_b1 w (.cells (cellsB leaf).toArray 23) (cellsB zeroK).toArray 23)
  have HLT : Hid (∀ W, Calls Try.prog 126 #[.agg (cellsB leaf).toArray] W fun e w' => (∃ A c, e = .returned (.slice A 17 c) ∧ OB W.heap.size w' A c (leafT leaf)) ∧ Below W.heap.size W w') := fun W => refLeafText_any leaf W hl
  have HLL : Hid ((leafT leaf).length = 17) := by unfold Hid leafT; simp [hl]
  dsimp only
  generalize leafT leaf = t at HLT HLL ⊢
  have HD : Hid (∀ X d W, BR W X d t → Calls Try.prog 125 #[.slice X 17 d] W fun e w' => e = .returned (.agg (cellsB (digS t)).toArray) ∧ Below W.heap.size W w') := fun X d W h => refDigest_any t X d W HLL.out h (by omega)
  have HDL : Hid ((digS t).length = 16) := digS_length _
  generalize digS t = dg at HDL HD ⊢
  have hdc : (cellsB dg).length = 16 := by rw [cellsB_length, HDL.out]
  have hall := all16 dg
  clear hl
  go_enter Try.func80, Try.ntmps80
  go_wp2_with (first
    | (refine wpList_load_row rfl 23 (.tmp 4) rfl w.heap.size rfl 23 (cellsB leaf).toArray (0, 0) _ (by rw [HZ.out]; exact B0.out) under_key rfl (cellsB_size _ HK.out) ?_)
    | (go_at_call 126; rw [HZ.out]; refine (HLT.out _).mono ?_; rintro e w1 ⟨⟨A1, c1, rfl, ho1⟩, hb1⟩; have b1 := bel_on b0 hb1; have O1 := Lib.hid ho1; have Q1 := Lib.hid (B1.out.below' hb1); clear ho1 hb1)
    | (go_at_call 125; refine (HD.out _ _ _ (O1.out.br (by rw [HLL.out]; omega))).mono ?_; rintro e w2 ⟨rfl, hb2⟩; have O2 := Lib.hid ((O1.out.below hb2).below (alloc_bel w2 (.cells #[.slice A1 17 c1] 24))); have Q2 := (Q1.out.below' hb2).alloc (.cells #[.slice A1 17 c1] 24); have b2 := bel_on (bel_on b1 hb2) (alloc_bel w2 (.cells #[.slice A1 17 c1] 24)); have hr2 : (rowAt (w2.alloc (.cells #[.slice A1 17 c1] 24)) (w.heap.size + 1)).size = 16 := (by rw [Q2.row]; rfl); have hf2 := Q2.free; have HQ2 := Lib.hid Q2; have hz2 : w.heap.size ≤ w2.heap.size := (bel_on b1 hb2).size; clear Q2 hb2))
  refine bodyPost_ret (v := .tuple #[.agg (cellsB dg).toArray, .slice (some ⟨w2.heap.size, 0, none⟩) 1 1]) ?_ rfl ⟨⟨some ⟨w2.heap.size, 0, none⟩, 1, [⟨A1, c1, t⟩], rfl, TO.row ⟨rfl, ?_, fun r hr => ?_⟩ HQ2.out _⟩, below_setRow b2 (by omega) _⟩
  · rw [results_cell_tmp Try.results80]
    simp [asAddr, Result.andThen, run_loadVar_row _ (w.heap.size + 1) _ _ _ (0, 0) _ (HQ2.out.setRow (cellsB dg).toArray) under_key rfl (cellsB_size _ HDL.out)]
  · have := RO.lit w.heap.size w2 ⟨A1, c1, t⟩ hz2
    simpa only [BRow.v, HLL.out] using this
  · rw [List.mem_singleton.1 hr]
    exact O2.out.le_ b0.size

set_option maxHeartbeats 4000000 in
set_option maxRecDepth 100000 in
theorem refGiven_any (leaf : List UInt8) (hl : leaf.length = 16) (n : Nat) : ∀ (i : Nat) (path : List (List UInt8)) (A : Option Addr) (c : Nat) (w : World), 1 ≤ n → n ≤ 1000 → i < n → path.length = stepsS n i → KR w A c path →
    Calls Try.prog 80 #[.agg (cellsB leaf).toArray, .int .i64 (n : Int), .int .i64 (i : Int), .slice A path.length c] w fun e w' => (∃ X x rs, e = .returned (.tuple #[.agg (cellsB (climbS leaf n i path).1).toArray, .slice X rs.length x]) ∧ TO w.heap.size w' X x rs (climbS leaf n i path).2) ∧ Below w.heap.size w w' := by
  induction n using Nat.strongRecOn with
  | _ n ih =>
    intro i path A c w h1n hbig hin hp h
    rcases Nat.lt_or_ge n 2 with h2 | h2
    · obtain rfl : n = 1 := by omega
      exact refGiven_one i leaf hl path path.length A c w
    have hs1 := splitS_pos n
    have hs2 := splitS_lt h2
    have hni : (2 : Int) ≤ (n : Int) := by omega
    have hnb : (n : Int) ≤ 1000 := by omega
    have hib : (i : Int) < (n : Int) := by omega
    have hne1 : ¬ (n : Int) = 1 := by omega
    have hcl := Rd.le h.1
    have hcap := Rd.len h.1
    have HSP : Hid (∀ W, Calls Try.prog 127 #[.int .i64 (n : Int)] W fun e w' => e = .returned (.int .i64 ((splitS n : Nat) : Int)) ∧ W = w') := fun W => refSplit_any n W h2 (by omega)
    have b0 := alloc2_bel w (.cells (cellsB leaf).toArray 23) (.cells (cellsB zeroK).toArray 23)
    have B0 := Lib.hid (blk_b0 w (cellsB leaf).toArray 23 (.cells (cellsB zeroK).toArray 23))
    have B1 := Lib.hid (blk_b1 w (.cells (cellsB leaf).toArray 23) (cellsB zeroK).toArray 23)
    have HZ := Lib.hid zero16
    have HK := Lib.hid hl
    by_cases hk : i < splitS n
    · have hki : (i : Int) < ((splitS n : Nat) : Int) := by omega
      obtain ⟨m, hm⟩ : ∃ m, path.length = m + 1 := ⟨path.length - 1, by rw [hp, stepsS_low h2 hk]; omega⟩
      rw [climbS_low _ _ h2 hk]
      have hql := climbS_length leaf (splitS n) (i) (initK path)
      have hqn := climbS_le leaf (splitS n) (i) (initK path) (by omega)
      have HC : Hid (∀ W, Below w.heap.size w W → Calls Try.prog 80 #[.agg (cellsB leaf).toArray, .int .i64 ((splitS n : Nat) : Int), .int .i64 (i : Int), .slice A m c] W fun e w' => (∃ X x rs, e = .returned (.tuple #[.agg (cellsB (climbS leaf (splitS n) i (initK path)).1).toArray, .slice X rs.length x]) ∧ TO W.heap.size w' X x rs (climbS leaf (splitS n) i (initK path)).2) ∧ Below W.heap.size W w') := fun W hW => by
        have hlen : m = (initK path).length := by rw [initK_length, hm]; omega
        rw [hlen]
        exact ih (splitS n) hs2 i (initK path) _ c W hs1 (by omega) hk (by rw [initK_length, hp, stepsS_low h2 hk]; omega) (h.below hW).init
      obtain ⟨b, off, rfl, hb, hr, hhl⟩ := h.lastAt hm
      have HR : Hid (∀ W, Below w.heap.size w W → W.rangeAt b (off + m * 16) (cellsB (lastK path))) := fun W hW => range_below hr hW
      have HH := Lib.hid hhl
      have hmi : (m : Int) ≤ 140737488351232 := by omega
      have hmc : m ≤ c := by omega
      have hmlt : (m : Int) < (m : Int) + 1 := by omega
      have hsl := fun W => slice_keys_to W (some ⟨b, off, none⟩) (m + 1) c m hmc
      have hwm : IntKind.i64.wrap ((m : Nat) : Int) = (m : Int) := by rw [IntKind.wrap_i64]; omega
      generalize climbS leaf (splitS n) i (initK path) = r at HC hql hqn ⊢
      obtain ⟨q, x⟩ := r
      dsimp only at HC hql hqn ⊢
      generalize lastK path = h0 at HR HH ⊢
      rw [hm]
      generalize splitS n = k at *
      have HQL := Lib.hid hql
      have HQN : Hid (x.length ≤ 1000) := by unfold Hid; omega
      have HNT : Hid (∀ W, Calls Try.prog 128 #[.agg (cellsB q).toArray, .agg (cellsB h0).toArray] W fun e w' => (∃ A c, e = .returned (.slice A 33 c) ∧ OB W.heap.size w' A c (nodeT q h0)) ∧ Below W.heap.size W w') := fun W => refNodeText_any q h0 W (by first | exact hql | exact HH.out) (by first | exact HH.out | exact hql)
      have HNL : Hid ((nodeT q h0).length = 33) := by unfold Hid nodeT; simp [hql, HH.out]
      generalize nodeT q h0 = t at HNT HNL ⊢
      have HD : Hid (∀ X d W, BR W X d t → Calls Try.prog 125 #[.slice X 33 d] W fun e w' => e = .returned (.agg (cellsB (digS t)).toArray) ∧ Below W.heap.size W w') := fun X d W h => refDigest_any t X d W HNL.out h (by omega)
      have HDL : Hid ((digS t).length = 16) := digS_length _
      generalize digS t = dg at HDL HD ⊢
      have hdc : (cellsB dg).length = 16 := by rw [cellsB_length, HDL.out]
      have hall := all16 dg
      have hqc : (cellsB q).length = 16 := by rw [cellsB_length, hql]
      have hqa := all16 q
      have HBW : Hid (b < w.heap.size) := hb
      clear ih h hp hm hr hhl hb hl hql hqn
      go_enter Try.func80, Try.ntmps80
      go_wp2_with (go_at_call 127; rw [HZ.out]; refine (HSP.out _).mono ?_; rintro e w1 ⟨rfl, rfl⟩)
      obtain ⟨W0, hW0⟩ : ∃ W : World, W = (w.alloc (.cells (cellsB leaf).toArray 23)).alloc (.cells (cellsB zeroK).toArray 23) := ⟨_, rfl⟩
      have hz0 : W0.heap.size = w.heap.size + 1 + 1 := by rw [hW0]; simp
      rw [← hW0] at b0 B0 B1 ⊢
      clear hW0
      refine wp_region_noPanic ?_
      have bw : Below w.heap.size w W0.drew := b0.drew
      refine wp_region_held_drew (S := fun w' => w'.rangeAt b (off + m * 16) (cellsB h0)) (by kernel_rfl) (HR.out _ bw) (fun hS => ?_)
      refine hd_take 0 (_) rfl rfl (by kernel_rfl) (by kernel_rfl) (by kernel_rfl) (fun _ _ _ h => h) (fun w _ => by go_simp <;> rfl) hS ?_
      refine hd_take 1 (_) rfl rfl (by kernel_rfl) (by kernel_rfl) (by kernel_rfl) (fun _ _ _ h => h) (fun w _ => by go_simp <;> rfl) hS ?_
      refine hd_take 5 (_) rfl rfl (by kernel_rfl) (by kernel_rfl) (by kernel_rfl) (fun _ _ _ h => h) (fun w _ => by go_simp <;> rfl) hS ?_
      refine hd_take 6 (_) rfl rfl (by kernel_rfl) (by kernel_rfl) (by kernel_rfl) (fun _ _ _ h => h) (fun w _ => by go_simp <;> rfl) hS ?_
      simp only [List.getElem_toArray, List.getElem_cons_succ, List.getElem_cons_zero, Act.put, List.setIfInBounds_toArray, List.set_cons_zero, List.set_cons_succ]
      refine hd_take 2 (_) rfl rfl (by kernel_rfl) (by kernel_rfl) (by kernel_rfl) (fun _ _ _ h => h) (fun w _ => by go_simp <;> rfl) hS ?_
      refine hd_take 7 (_) rfl rfl (by kernel_rfl) (by kernel_rfl) (by kernel_rfl) (fun _ _ _ h => h) (fun w _ => by go_simp <;> rfl) hS ?_
      simp only [List.getElem_toArray, List.getElem_cons_succ, List.getElem_cons_zero, Act.put, List.setIfInBounds_toArray, List.set_cons_zero, List.set_cons_succ]
      refine hd_take 3 (_) rfl rfl (by kernel_rfl) (by kernel_rfl) (by kernel_rfl) (fun _ _ _ h => h) (fun w _ => by go_simp <;> rfl) hS ?_
      refine hd_take 8 (_) rfl rfl (by kernel_rfl) (by kernel_rfl) (by kernel_rfl) (fun _ _ _ h => h) (fun w _ => by go_simp <;> rfl) hS ?_
      simp only [List.getElem_toArray, List.getElem_cons_succ, List.getElem_cons_zero, Act.put, List.setIfInBounds_toArray, List.set_cons_zero, List.set_cons_succ]
      refine hd_take 4 (_) rfl rfl (by kernel_rfl) (by kernel_rfl) (by kernel_rfl) (fun _ _ _ h => h) (fun w _ => by go_simp <;> rfl) hS ?_
      refine hd_take 9 (_) rfl rfl (by kernel_rfl) (by kernel_rfl) (by kernel_rfl) (fun _ _ _ h => h) (fun w _ => by go_simp <;> rfl) hS ?_
      simp only [List.getElem_toArray, List.getElem_cons_succ, List.getElem_cons_zero, Act.put, List.setIfInBounds_toArray, List.set_cons_zero, List.set_cons_succ]
      refine hd_load 10 b (off + m * 16) (cellsB h0) _ _ rfl rfl rfl (by kernel_rfl) (by kernel_rfl) (by kernel_rfl) (fun _ _ _ h => h) rfl (fun w hw => hw) under_key rfl (key_info HH.out) hS ?_
      simp only [List.getElem_toArray, List.getElem_cons_succ, List.getElem_cons_zero, Act.put, List.setIfInBounds_toArray, List.set_cons_zero, List.set_cons_succ]
      have BA := alloc_bel W0.drew (.cells (cellsB zeroK).toArray 23)
      refine hd_sole 11 (by kernel_rfl) (op_run (.pointer (some ⟨W0.heap.size, 0, none⟩)) (W0.drew.alloc (.cells (cellsB zeroK).toArray 23)) rfl rfl (by rw [← HZ.out]; go_simp) ⟨HR.out _ (bel_on bw BA), ?_⟩)
      simp only [List.getElem_toArray, List.getElem_cons_succ, List.getElem_cons_zero, Act.put, List.setIfInBounds_toArray, List.set_cons_zero, List.set_cons_succ]
      have hS2 : (W0.drew.alloc (.cells (cellsB zeroK).toArray 23)).rangeAt b (off + m * 16) (cellsB h0) := HR.out _ (bel_on bw BA)
      refine hd_take 12 (.slice (some ⟨b, off, none⟩) m c) rfl rfl (by kernel_rfl) (by kernel_rfl) (by kernel_rfl) (fun _ _ _ h => h) (fun w _ => by go_simp) hS2 ?_
      simp only [List.getElem_toArray, List.getElem_cons_succ, List.getElem_cons_zero, Act.put, List.setIfInBounds_toArray, List.set_cons_zero, List.set_cons_succ]
      have N1 : Blk (W0.drew.alloc (.cells (cellsB zeroK).toArray 23)) W0.heap.size 23 (cellsB zeroK).toArray := Blk.new W0.drew _ _
      have hbb : W0.heap.size ≠ b := by have := HBW.out; omega
      have hS3 := range_setRow hS2 (g' := W0.heap.size) (by omega) (cellsB h0).toArray
      refine hd_store 13 W0.heap.size (cellsB h0).toArray _ _ _ rfl rfl rfl (by kernel_rfl) rfl rfl N1 (cellsB_size _ HH.out) (by rw [List.size_toArray, List.size_toArray, cellsB_length, cellsB_length, HH.out]; rfl) (all_oneCell_toArray (cells_one h0)) hS3 ?_
      refine wpAnyH_done (by kernel_rfl) (NoPanic.normal ?_) _
      have H1 := Lib.hid (N1.setRow (cellsB h0).toArray)
      have L1 := Lib.hid (show Blk ((W0.drew.alloc (.cells (cellsB zeroK).toArray 23)).setRow W0.heap.size (cellsB h0).toArray) w.heap.size _ _ from (setRow_other _ W0.heap.size w.heap.size (cellsB h0).toArray (by omega)).trans (B0.out.drew.alloc (.cells (cellsB zeroK).toArray 23)))
      have R1 := Lib.hid (show Blk ((W0.drew.alloc (.cells (cellsB zeroK).toArray 23)).setRow W0.heap.size (cellsB h0).toArray) (w.heap.size + 1) _ _ from (setRow_other _ W0.heap.size (w.heap.size + 1) (cellsB h0).toArray (by omega)).trans (B1.out.drew.alloc (.cells (cellsB zeroK).toArray 23)))
      have BW := below_setRow (bel_on bw BA) (g := W0.heap.size) (by omega) (cellsB h0).toArray
      have hz1 : W0.heap.size < ((W0.drew.alloc (.cells (cellsB zeroK).toArray 23)).setRow W0.heap.size (cellsB h0).toArray).heap.size := by simp [World.setRow]
      have HBH := Lib.hid hz0
      generalize (W0.drew.alloc (.cells (cellsB zeroK).toArray 23)).setRow W0.heap.size (cellsB h0).toArray = W1 at H1 L1 R1 BW hz1 ⊢
      clear hS hS2 hS3 N1 BA bw hz0 hbb
      go_wp2_with (first
        | (refine wpList_load_row rfl 23 (.tmp 4) rfl w.heap.size rfl 23 (cellsB leaf).toArray (0, 0) _ L1.out under_key rfl (cellsB_size _ HK.out) ?_)
        | (go_at_call 80; refine (HC.out _ BW).mono ?_; rintro e w2 ⟨⟨X2, x2, rs2, rfl, ho2⟩, hb2⟩; have H2 := Lib.hid ((H1.out.below' hb2).alloc (.cells (cellsB q).toArray 23)); have R2 := Lib.hid ((R1.out.below' hb2).alloc (.cells (cellsB q).toArray 23)); have Q2 := Lib.hid (Blk.new w2 23 (cellsB q).toArray); have T2 := Lib.hid (ho2.below (alloc_bel w2 (.cells (cellsB q).toArray 23))); have D2 := bel_on (bel_on BW hb2) (alloc_bel w2 (.cells (cellsB q).toArray 23)); have z2 : W1.heap.size ≤ w2.heap.size := hb2.size; generalize hq2 : rs2.length = k2; have HQ2 := Lib.hid hq2; clear ho2 hb2 hq2)
        | (refine wpList_load_row rfl 23 (.tmp 16) rfl w2.heap.size rfl 23 (cellsB q).toArray (0, 0) _ Q2.out under_key rfl (cellsB_size _ HQL.out) ?_)
        | (refine wpList_load_row rfl 23 (.tmp 13) rfl W0.heap.size rfl 23 (cellsB h0).toArray (0, 0) _ H2.out under_key rfl (cellsB_size _ HH.out) ?_)
        | (go_at_call 128; refine (HNT.out _).mono ?_; rintro e w3 ⟨⟨A3, c3, rfl, ho3⟩, hb3⟩; have R3 := Lib.hid (R2.out.below' hb3); have T3 := Lib.hid (T2.out.below hb3); have O3 := Lib.hid (ho3.le_ (B' := W1.heap.size) (by simp; omega)); have D3 := bel_on D2 hb3; have z3 : W1.heap.size ≤ w3.heap.size := Nat.le_trans z2 (Nat.le_trans (by simp) hb3.size); clear ho3 hb3)
        | (go_at_call 125; refine (HD.out _ _ _ (O3.out.br (by rw [HNL.out]; omega))).mono ?_; rintro e w4 ⟨rfl, hb4⟩; have R4 := Lib.hid ((R3.out.below' hb4).alloc (.cells #[.slice A3 33 c3] 24)); have T4 := Lib.hid ((T3.out.below hb4).below (alloc_bel w4 (.cells #[.slice A3 33 c3] 24))); have O4 := Lib.hid ((O3.out.below hb4).below (alloc_bel w4 (.cells #[.slice A3 33 c3] 24))); have D4 := bel_on (bel_on D3 hb4) (alloc_bel w4 (.cells #[.slice A3 33 c3] 24)); have z4 : W1.heap.size ≤ (w4.alloc (.cells #[.slice A3 33 c3] 24)).heap.size := Nat.le_trans z3 (Nat.le_trans hb4.size (by simp)); have S4 := Lib.hid (src_one w4 (.slice A3 33 c3) 24); clear hb4)
        | (at_builtin; refine wpList_append_row _ rfl (.tmp 74) (.tmp 76) rfl W1.heap.size X2 k2 x2 rs2 HQ2.out rfl T4.out.2.1 ⟨A3, c3, t⟩ (some ⟨w4.heap.size, 0, none⟩) 1 rfl (by rw [show BRow.v ⟨A3, c3, t⟩ = .slice A3 33 c3 from by unfold BRow.v; rw [HNL.out]]; exact S4.out) (by have := T4.out.len; rw [HQ2.out] at this; have := HQN.out; omega) z4 ?_; intro A5 c5 w5 ro5 hb5 hg5; rw [← HQ2.out] at hg5; have R5 := R4.out.grown T4.out.2.1 (by decide) hg5; have T5 := Lib.hid (T4.out.snoc O4.out ro5 hg5); have D5 := Lib.hid (D4.trans (hb5.mono BW.size)); have hr5 : (rowAt w5 (w.heap.size + 1)).size = 16 := (by rw [R5.row]; rfl); have hf5 := R5.free; have HR5 := Lib.hid R5; clear R5 ro5 hg5 hb5))
      refine bodyPost_ret (v := .tuple #[.agg (cellsB dg).toArray, .slice A5 (k2 + 1) c5]) ?_ rfl ⟨⟨A5, c5, rs2 ++ [⟨A3, c3, t⟩], by rw [List.length_append, HQ2.out]; rfl, TO.row (T5.out.le_ BW.size) HR5.out _⟩, below_setRow D5.out (by omega) _⟩
      rw [results_cell_tmp Try.results80]
      simp [asAddr, Result.andThen, run_loadVar_row _ (w.heap.size + 1) _ _ _ (0, 0) _ (HR5.out.setRow (cellsB dg).toArray) under_key rfl (cellsB_size _ HDL.out)]
    · have hki : ¬ (i : Int) < ((splitS n : Nat) : Int) := by omega
      have hki2 : ((splitS n : Nat) : Int) ≤ (i : Int) := by omega
      have hkn : ((splitS n : Nat) : Int) < (n : Int) := by omega
      obtain ⟨m, hm⟩ : ∃ m, path.length = m + 1 := ⟨path.length - 1, by rw [hp, stepsS_high h2 hk]; omega⟩
      rw [climbS_high _ _ h2 hk]
      have hql := climbS_length leaf (n - splitS n) (i - splitS n) (initK path)
      have hqn := climbS_le leaf (n - splitS n) (i - splitS n) (initK path) (by omega)
      have HC : Hid (∀ W, Below w.heap.size w W → Calls Try.prog 80 #[.agg (cellsB leaf).toArray, .int .i64 ((n : Int) - ((splitS n : Nat) : Int)), .int .i64 ((i : Int) - ((splitS n : Nat) : Int)), .slice A m c] W fun e w' => (∃ X x rs, e = .returned (.tuple #[.agg (cellsB (climbS leaf (n - splitS n) (i - splitS n) (initK path)).1).toArray, .slice X rs.length x]) ∧ TO W.heap.size w' X x rs (climbS leaf (n - splitS n) (i - splitS n) (initK path)).2) ∧ Below W.heap.size W w') := fun W hW => by
        have hlen : m = (initK path).length := by rw [initK_length, hm]; omega
        rw [hlen]
        rw [show (n : Int) - ((splitS n : Nat) : Int) = ((n - splitS n : Nat) : Int) from by omega, show (i : Int) - ((splitS n : Nat) : Int) = ((i - splitS n : Nat) : Int) from by omega]
        exact ih (n - splitS n) (by omega) (i - splitS n) (initK path) _ c W (by omega) (by omega) (by omega) (by rw [initK_length, hp, stepsS_high h2 hk]; omega) (h.below hW).init
      obtain ⟨b, off, rfl, hb, hr, hhl⟩ := h.lastAt hm
      have HR : Hid (∀ W, Below w.heap.size w W → W.rangeAt b (off + m * 16) (cellsB (lastK path))) := fun W hW => range_below hr hW
      have HH := Lib.hid hhl
      have hmi : (m : Int) ≤ 140737488351232 := by omega
      have hmc : m ≤ c := by omega
      have hmlt : (m : Int) < (m : Int) + 1 := by omega
      have hsl := fun W => slice_keys_to W (some ⟨b, off, none⟩) (m + 1) c m hmc
      have hwm : IntKind.i64.wrap ((m : Nat) : Int) = (m : Int) := by rw [IntKind.wrap_i64]; omega
      generalize climbS leaf (n - splitS n) (i - splitS n) (initK path) = r at HC hql hqn ⊢
      obtain ⟨q, x⟩ := r
      dsimp only at HC hql hqn ⊢
      generalize lastK path = h0 at HR HH ⊢
      rw [hm]
      generalize splitS n = k at *
      have HQL := Lib.hid hql
      have HQN : Hid (x.length ≤ 1000) := by unfold Hid; omega
      have HNT : Hid (∀ W, Calls Try.prog 128 #[.agg (cellsB h0).toArray, .agg (cellsB q).toArray] W fun e w' => (∃ A c, e = .returned (.slice A 33 c) ∧ OB W.heap.size w' A c (nodeT h0 q)) ∧ Below W.heap.size W w') := fun W => refNodeText_any h0 q W (by first | exact hql | exact HH.out) (by first | exact HH.out | exact hql)
      have HNL : Hid ((nodeT h0 q).length = 33) := by unfold Hid nodeT; simp [hql, HH.out]
      generalize nodeT h0 q = t at HNT HNL ⊢
      have HD : Hid (∀ X d W, BR W X d t → Calls Try.prog 125 #[.slice X 33 d] W fun e w' => e = .returned (.agg (cellsB (digS t)).toArray) ∧ Below W.heap.size W w') := fun X d W h => refDigest_any t X d W HNL.out h (by omega)
      have HDL : Hid ((digS t).length = 16) := digS_length _
      generalize digS t = dg at HDL HD ⊢
      have hdc : (cellsB dg).length = 16 := by rw [cellsB_length, HDL.out]
      have hall := all16 dg
      have hqc : (cellsB q).length = 16 := by rw [cellsB_length, hql]
      have hqa := all16 q
      have HBW : Hid (b < w.heap.size) := hb
      clear ih h hp hm hr hhl hb hl hql hqn
      go_enter Try.func80, Try.ntmps80
      go_wp2_with (go_at_call 127; rw [HZ.out]; refine (HSP.out _).mono ?_; rintro e w1 ⟨rfl, rfl⟩)
      obtain ⟨W0, hW0⟩ : ∃ W : World, W = (w.alloc (.cells (cellsB leaf).toArray 23)).alloc (.cells (cellsB zeroK).toArray 23) := ⟨_, rfl⟩
      have hz0 : W0.heap.size = w.heap.size + 1 + 1 := by rw [hW0]; simp
      rw [← hW0] at b0 B0 B1 ⊢
      clear hW0
      refine wp_region_noPanic ?_
      have bw : Below w.heap.size w W0.drew := b0.drew
      refine wp_region_held_drew (S := fun w' => w'.rangeAt b (off + m * 16) (cellsB h0)) (by kernel_rfl) (HR.out _ bw) (fun hS => ?_)
      refine hd_take 0 (_) rfl rfl (by kernel_rfl) (by kernel_rfl) (by kernel_rfl) (fun _ _ _ h => h) (fun w _ => by go_simp <;> rfl) hS ?_
      refine hd_take 1 (_) rfl rfl (by kernel_rfl) (by kernel_rfl) (by kernel_rfl) (fun _ _ _ h => h) (fun w _ => by go_simp <;> rfl) hS ?_
      refine hd_take 5 (_) rfl rfl (by kernel_rfl) (by kernel_rfl) (by kernel_rfl) (fun _ _ _ h => h) (fun w _ => by go_simp <;> rfl) hS ?_
      refine hd_take 6 (_) rfl rfl (by kernel_rfl) (by kernel_rfl) (by kernel_rfl) (fun _ _ _ h => h) (fun w _ => by go_simp <;> rfl) hS ?_
      simp only [List.getElem_toArray, List.getElem_cons_succ, List.getElem_cons_zero, Act.put, List.setIfInBounds_toArray, List.set_cons_zero, List.set_cons_succ]
      refine hd_take 2 (_) rfl rfl (by kernel_rfl) (by kernel_rfl) (by kernel_rfl) (fun _ _ _ h => h) (fun w _ => by go_simp <;> rfl) hS ?_
      refine hd_take 7 (_) rfl rfl (by kernel_rfl) (by kernel_rfl) (by kernel_rfl) (fun _ _ _ h => h) (fun w _ => by go_simp <;> rfl) hS ?_
      simp only [List.getElem_toArray, List.getElem_cons_succ, List.getElem_cons_zero, Act.put, List.setIfInBounds_toArray, List.set_cons_zero, List.set_cons_succ]
      refine hd_take 3 (_) rfl rfl (by kernel_rfl) (by kernel_rfl) (by kernel_rfl) (fun _ _ _ h => h) (fun w _ => by go_simp <;> rfl) hS ?_
      refine hd_take 8 (_) rfl rfl (by kernel_rfl) (by kernel_rfl) (by kernel_rfl) (fun _ _ _ h => h) (fun w _ => by go_simp <;> rfl) hS ?_
      simp only [List.getElem_toArray, List.getElem_cons_succ, List.getElem_cons_zero, Act.put, List.setIfInBounds_toArray, List.set_cons_zero, List.set_cons_succ]
      refine hd_take 4 (_) rfl rfl (by kernel_rfl) (by kernel_rfl) (by kernel_rfl) (fun _ _ _ h => h) (fun w _ => by go_simp <;> rfl) hS ?_
      refine hd_take 9 (_) rfl rfl (by kernel_rfl) (by kernel_rfl) (by kernel_rfl) (fun _ _ _ h => h) (fun w _ => by go_simp <;> rfl) hS ?_
      simp only [List.getElem_toArray, List.getElem_cons_succ, List.getElem_cons_zero, Act.put, List.setIfInBounds_toArray, List.set_cons_zero, List.set_cons_succ]
      refine hd_load 10 b (off + m * 16) (cellsB h0) _ _ rfl rfl rfl (by kernel_rfl) (by kernel_rfl) (by kernel_rfl) (fun _ _ _ h => h) rfl (fun w hw => hw) under_key rfl (key_info HH.out) hS ?_
      simp only [List.getElem_toArray, List.getElem_cons_succ, List.getElem_cons_zero, Act.put, List.setIfInBounds_toArray, List.set_cons_zero, List.set_cons_succ]
      have BA := alloc_bel W0.drew (.cells (cellsB zeroK).toArray 23)
      refine hd_sole 11 (by kernel_rfl) (op_run (.pointer (some ⟨W0.heap.size, 0, none⟩)) (W0.drew.alloc (.cells (cellsB zeroK).toArray 23)) rfl rfl (by rw [← HZ.out]; go_simp) ⟨HR.out _ (bel_on bw BA), ?_⟩)
      simp only [List.getElem_toArray, List.getElem_cons_succ, List.getElem_cons_zero, Act.put, List.setIfInBounds_toArray, List.set_cons_zero, List.set_cons_succ]
      have hS2 : (W0.drew.alloc (.cells (cellsB zeroK).toArray 23)).rangeAt b (off + m * 16) (cellsB h0) := HR.out _ (bel_on bw BA)
      refine hd_take 12 (.slice (some ⟨b, off, none⟩) m c) rfl rfl (by kernel_rfl) (by kernel_rfl) (by kernel_rfl) (fun _ _ _ h => h) (fun w _ => by go_simp) hS2 ?_
      simp only [List.getElem_toArray, List.getElem_cons_succ, List.getElem_cons_zero, Act.put, List.setIfInBounds_toArray, List.set_cons_zero, List.set_cons_succ]
      have N1 : Blk (W0.drew.alloc (.cells (cellsB zeroK).toArray 23)) W0.heap.size 23 (cellsB zeroK).toArray := Blk.new W0.drew _ _
      have hbb : W0.heap.size ≠ b := by have := HBW.out; omega
      have hS3 := range_setRow hS2 (g' := W0.heap.size) (by omega) (cellsB h0).toArray
      refine hd_store 13 W0.heap.size (cellsB h0).toArray _ _ _ rfl rfl rfl (by kernel_rfl) rfl rfl N1 (cellsB_size _ HH.out) (by rw [List.size_toArray, List.size_toArray, cellsB_length, cellsB_length, HH.out]; rfl) (all_oneCell_toArray (cells_one h0)) hS3 ?_
      refine wpAnyH_done (by kernel_rfl) (NoPanic.normal ?_) _
      have H1 := Lib.hid (N1.setRow (cellsB h0).toArray)
      have L1 := Lib.hid (show Blk ((W0.drew.alloc (.cells (cellsB zeroK).toArray 23)).setRow W0.heap.size (cellsB h0).toArray) w.heap.size _ _ from (setRow_other _ W0.heap.size w.heap.size (cellsB h0).toArray (by omega)).trans (B0.out.drew.alloc (.cells (cellsB zeroK).toArray 23)))
      have R1 := Lib.hid (show Blk ((W0.drew.alloc (.cells (cellsB zeroK).toArray 23)).setRow W0.heap.size (cellsB h0).toArray) (w.heap.size + 1) _ _ from (setRow_other _ W0.heap.size (w.heap.size + 1) (cellsB h0).toArray (by omega)).trans (B1.out.drew.alloc (.cells (cellsB zeroK).toArray 23)))
      have BW := below_setRow (bel_on bw BA) (g := W0.heap.size) (by omega) (cellsB h0).toArray
      have hz1 : W0.heap.size < ((W0.drew.alloc (.cells (cellsB zeroK).toArray 23)).setRow W0.heap.size (cellsB h0).toArray).heap.size := by simp [World.setRow]
      have HBH := Lib.hid hz0
      generalize (W0.drew.alloc (.cells (cellsB zeroK).toArray 23)).setRow W0.heap.size (cellsB h0).toArray = W1 at H1 L1 R1 BW hz1 ⊢
      clear hS hS2 hS3 N1 BA bw hz0 hbb
      go_wp2_with (first
        | (refine wpList_load_row rfl 23 (.tmp 4) rfl w.heap.size rfl 23 (cellsB leaf).toArray (0, 0) _ L1.out under_key rfl (cellsB_size _ HK.out) ?_)
        | (go_at_call 80; refine (HC.out _ BW).mono ?_; rintro e w2 ⟨⟨X2, x2, rs2, rfl, ho2⟩, hb2⟩; have H2 := Lib.hid ((H1.out.below' hb2).alloc (.cells (cellsB q).toArray 23)); have R2 := Lib.hid ((R1.out.below' hb2).alloc (.cells (cellsB q).toArray 23)); have Q2 := Lib.hid (Blk.new w2 23 (cellsB q).toArray); have T2 := Lib.hid (ho2.below (alloc_bel w2 (.cells (cellsB q).toArray 23))); have D2 := bel_on (bel_on BW hb2) (alloc_bel w2 (.cells (cellsB q).toArray 23)); have z2 : W1.heap.size ≤ w2.heap.size := hb2.size; generalize hq2 : rs2.length = k2; have HQ2 := Lib.hid hq2; clear ho2 hb2 hq2)
        | (refine wpList_load_row rfl 23 (.tmp 18) rfl w2.heap.size rfl 23 (cellsB q).toArray (0, 0) _ Q2.out under_key rfl (cellsB_size _ HQL.out) ?_)
        | (refine wpList_load_row rfl 23 (.tmp 13) rfl W0.heap.size rfl 23 (cellsB h0).toArray (0, 0) _ H2.out under_key rfl (cellsB_size _ HH.out) ?_)
        | (go_at_call 128; refine (HNT.out _).mono ?_; rintro e w3 ⟨⟨A3, c3, rfl, ho3⟩, hb3⟩; have R3 := Lib.hid (R2.out.below' hb3); have T3 := Lib.hid (T2.out.below hb3); have O3 := Lib.hid (ho3.le_ (B' := W1.heap.size) (by simp; omega)); have D3 := bel_on D2 hb3; have z3 : W1.heap.size ≤ w3.heap.size := Nat.le_trans z2 (Nat.le_trans (by simp) hb3.size); clear ho3 hb3)
        | (go_at_call 125; refine (HD.out _ _ _ (O3.out.br (by rw [HNL.out]; omega))).mono ?_; rintro e w4 ⟨rfl, hb4⟩; have R4 := Lib.hid ((R3.out.below' hb4).alloc (.cells #[.slice A3 33 c3] 24)); have T4 := Lib.hid ((T3.out.below hb4).below (alloc_bel w4 (.cells #[.slice A3 33 c3] 24))); have O4 := Lib.hid ((O3.out.below hb4).below (alloc_bel w4 (.cells #[.slice A3 33 c3] 24))); have D4 := bel_on (bel_on D3 hb4) (alloc_bel w4 (.cells #[.slice A3 33 c3] 24)); have z4 : W1.heap.size ≤ (w4.alloc (.cells #[.slice A3 33 c3] 24)).heap.size := Nat.le_trans z3 (Nat.le_trans hb4.size (by simp)); have S4 := Lib.hid (src_one w4 (.slice A3 33 c3) 24); clear hb4)
        | (at_builtin; refine wpList_append_row _ rfl (.tmp 74) (.tmp 76) rfl W1.heap.size X2 k2 x2 rs2 HQ2.out rfl T4.out.2.1 ⟨A3, c3, t⟩ (some ⟨w4.heap.size, 0, none⟩) 1 rfl (by rw [show BRow.v ⟨A3, c3, t⟩ = .slice A3 33 c3 from by unfold BRow.v; rw [HNL.out]]; exact S4.out) (by have := T4.out.len; rw [HQ2.out] at this; have := HQN.out; omega) z4 ?_; intro A5 c5 w5 ro5 hb5 hg5; rw [← HQ2.out] at hg5; have R5 := R4.out.grown T4.out.2.1 (by decide) hg5; have T5 := Lib.hid (T4.out.snoc O4.out ro5 hg5); have D5 := Lib.hid (D4.trans (hb5.mono BW.size)); have hr5 : (rowAt w5 (w.heap.size + 1)).size = 16 := (by rw [R5.row]; rfl); have hf5 := R5.free; have HR5 := Lib.hid R5; clear R5 ro5 hg5 hb5))
      refine bodyPost_ret (v := .tuple #[.agg (cellsB dg).toArray, .slice A5 (k2 + 1) c5]) ?_ rfl ⟨⟨A5, c5, rs2 ++ [⟨A3, c3, t⟩], by rw [List.length_append, HQ2.out]; rfl, TO.row (T5.out.le_ BW.size) HR5.out _⟩, below_setRow D5.out (by omega) _⟩
      rw [results_cell_tmp Try.results80]
      simp [asAddr, Result.andThen, run_loadVar_row _ (w.heap.size + 1) _ _ _ (0, 0) _ (HR5.out.setRow (cellsB dg).toArray) under_key rfl (cellsB_size _ HDL.out)]
end Go.Proofs.Ytinpiodfpnbllaa

/- The two roots that a growth gives: the reference's. -/
namespace Go.Proofs.Ytinpiodfpnbllaa
open Go.RowKit
set_option linter.unusedVariables false
set_option linter.unusedSimpArgs false
attribute [local go_sem] run_storeCells_key run_storeCells_new

theorem results_cell2t {fn : Func} {p u v : Tmp} {ty ty' : TypeId} (h : fn.results = #[.cell p ty, .cell u ty', .tmp v]) (tmps : Array Value) (P : Program) (w : World) :
    (results fn tmps).run P w =
      ((asAddr (tmps.getD p undef)).run P w).andThen fun a w1 => ((loadVar ty a).run P w1).andThen fun x w2 => ((asAddr (tmps.getD u undef)).run P w2).andThen fun a' w3 => ((loadVar ty' a').run P w3).andThen fun y w4 => .ok (.tuple #[x, y, tmps.getD v undef]) w4 := by
  simp only [results, h]
  simp [Sem.run_bind, Result.andThen]
theorem wpList_append_rows (w : World) {ops : Array Oper} {rest : List Oper} {o : Oper} {a : Act} {Q : Exit → Act → World → Prop} (hgd : o.guard = none) (s x : Operand)
    (ho : o.op = .call { callee := .builtin .append, args := #[s, x], argTypes := #[45, 45] })
    (B : Nat) (A : Option Addr) (n c : Nat) (rs : List BRow) (hn : rs.length = n) (hs : a.eval s = .slice A n c) (hown : RO B w A c rs)
    (X : Option Addr) (m d : Nat) (news : List BRow) (hm : news.length = m) (hx : a.eval x = .slice X m d) (hsrc : Src w 1 X m (news.map BRow.v))
    (hlen : n + m ≤ 1000000) (hB : B ≤ w.heap.size)
    (h : ∀ A' c' w', RO B w' A' c' (rs ++ news) → Below B w w' → w.grownBy w' (Value.ownBlock (.slice A n c)) → wpList Try.prog ops Q rest (a.put o.dst (.slice A' (n + m) c')) w') : wpList Try.prog ops Q (o :: rest) a w := by
  obtain ⟨i0, hi, hz0, hz1, hz2⟩ := info_parts rows_info
  subst hn hm
  refine wpList_append_src w hgd s x 45 ho B 24 i0 (.slice none 0 0) 1 24 Try.underlying45 hi hz0 hz1 hz2 rfl (by omega) A rs.length c (rs.map BRow.v) hs hown X news.length d (news.map BRow.v) hx hsrc (by intro u hu; obtain ⟨r, _, rfl⟩ := List.mem_map.1 hu; rfl)
    (by simp only [maxLen]; omega) (by omega) hB ?_
  intro A' c' w' h1 h2 h3
  refine h A' c' w' ?_ (grown_below (Below.refl _ _) hown h2 hB (Nat.le_refl _)) h2
  unfold RO
  rw [List.map_append, List.length_append]
  exact h1
theorem TO.two {B : Nat} {w w' : World} {A A' : Option Addr} {c c' : Nat} {rs : List BRow} {ts : List (List UInt8)} (h : TO B w A c rs ts) {X Y : Option Addr} {d e : Nat} {s t : List UInt8} (hx : OB B w X d s) (hy : OB B w Y e t) (h' : RO B w' A' c' (rs ++ [⟨X, d, s⟩, ⟨Y, e, t⟩])) (hg : w.grownBy w' (Value.ownBlock (.slice A rs.length c))) : TO B w' A' c' (rs ++ [⟨X, d, s⟩, ⟨Y, e, t⟩]) (ts ++ [s, t]) :=
  ⟨by rw [List.map_append, h.1]; rfl, h', fun r hr => by
    rcases List.mem_append.1 hr with hr | hr
    · exact own_kept (h.2.2 r hr) h.2.1 (by decide) hg
    · rcases List.mem_cons.1 hr with rfl | hr
      · exact own_kept hx h.2.1 (by decide) hg
      · rw [List.mem_singleton.1 hr]; exact own_kept hy h.2.1 (by decide) hg⟩
theorem src_two (w : World) (v v' : Value) (t : TypeId) : Src (w.alloc (.cells #[v, v'] t)) 1 (some ⟨w.heap.size, 0, none⟩) 2 [v, v'] := by
  refine ⟨rfl, .inr ⟨_, rfl, fun j u hu => ?_⟩⟩
  rw [Addr.add_lit, Nat.zero_add, (Blk.new w t #[v, v']).cell j]
  simpa using hu
def GrownEnd (r : List UInt8 × List UInt8 × List (List UInt8)) (w : World) (e : Ending) (w' : World) : Prop :=
  (∃ X x rs, e = .returned (.tuple #[.agg (cellsB r.1).toArray, .agg (cellsB r.2.1).toArray, .slice X rs.length x]) ∧ TO w.heap.size w' X x rs r.2.2) ∧ Below w.heap.size w w'

theorem RO_nil (B : Nat) (w : World) : RO B w none 0 [] := RO.nil B w

set_option maxHeartbeats 4000000 in
set_option maxRecDepth 100000 in
theorem grown_whole (n : Nat) (before : List UInt8) (hl : before.length = 16) (A : Option Addr) (c : Nat) (w : World) (hn : n ≤ 1000) (h : KR w A c []) :
    Calls Try.prog 84 #[.agg (cellsB before).toArray, .int .i64 (n : Int), .int .i64 (n : Int), .bool true, .slice A 0 c] w (GrownEnd (growS before n n []) w) := by
  rw [growS_end]
  unfold GrownEnd
  dsimp only
  have HZ := Lib.hid zero16
  have HK := Lib.hid hl
  have hni : (n : Int) ≤ 1000 := by omega
  have b0 := alloc3_bel w (.cells (cellsB before).toArray 23) (.cells (cellsB zeroK).toArray 23) (.cells (cellsB zeroK).toArray 23)
  have B0 := Lib.hid (blk_a0 w (cellsB before).toArray 23 (.cells (cellsB zeroK).toArray 23) (.cells (cellsB zeroK).toArray 23))
  have B1 := Lib.hid (blk_a1 w (.cells (cellsB before).toArray 23) (cellsB zeroK).toArray 23 (.cells (cellsB zeroK).toArray 23))
  have B2 := Lib.hid (blk_a2 w (.cells (cellsB before).toArray 23) (.cells (cellsB zeroK).toArray 23) (cellsB zeroK).toArray 23)
  rw [show ([] : List (List UInt8)).headD before = before from rfl]
  clear h hl
  go_enter Try.func84, Try.ntmps84
  go_wp2_with fail
  rw [HZ.out]
  have BR1 := B1.out
  have BR2 := B2.out
  have BWW := b0
  have BX := B0.out
  generalize ((w.alloc (.cells (cellsB before).toArray 23)).alloc (.cells (cellsB zeroK).toArray 23)).alloc (.cells (cellsB zeroK).toArray 23) = W at BX BR1 BR2 BWW ⊢
  refine wp_region_noPanic ?_
  refine wp_region_held_drew (S := fun w' => w'.rangeAt w.heap.size 0 (cellsB before)) (by kernel_rfl) BX.drew.range (fun hS => ?_)
  refine hd_load 0 w.heap.size 0 (cellsB before) _ _ rfl rfl rfl (by kernel_rfl) (by kernel_rfl) (by kernel_rfl) (fun _ _ _ h => h) rfl (fun w hw => hw) under_key rfl (key_info HK.out) hS ?_
  refine hd_load 1 w.heap.size 0 (cellsB before) _ _ rfl rfl rfl (by kernel_rfl) (by kernel_rfl) (by kernel_rfl) (fun _ _ _ h => h) rfl (fun w hw => hw) under_key rfl (key_info HK.out) hS ?_
  simp only [List.getElem_toArray, List.getElem_cons_succ, List.getElem_cons_zero, Act.put, List.setIfInBounds_toArray, List.set_cons_zero, List.set_cons_succ]
  have E1 := BR1.drew
  have hS2 := range_setRow hS (g' := w.heap.size + 1) (by omega) (cellsB before).toArray
  refine hd_store 2 (w.heap.size + 1) (cellsB before).toArray _ _ _ rfl rfl rfl (by kernel_rfl) rfl rfl E1 (cellsB_size _ HK.out) (by rw [List.size_toArray, List.size_toArray, cellsB_length, cellsB_length, HK.out]; rfl) (all_oneCell_toArray (cells_one before)) hS2 ?_
  have E2 := BR2.drew.row_ne (g' := w.heap.size + 1) (cs' := (cellsB before).toArray) (by omega)
  have hS3 := range_setRow hS2 (g' := w.heap.size + 1 + 1) (by omega) (cellsB before).toArray
  refine hd_store 3 (w.heap.size + 1 + 1) (cellsB before).toArray _ _ _ rfl rfl rfl (by kernel_rfl) rfl rfl E2 (cellsB_size _ HK.out) (by rw [List.size_toArray, List.size_toArray, cellsB_length, cellsB_length, HK.out]; rfl) (all_oneCell_toArray (cells_one before)) hS3 ?_
  simp only [List.getElem_toArray, List.getElem_cons_succ, List.getElem_cons_zero, Act.put, List.setIfInBounds_toArray, List.set_cons_zero, List.set_cons_succ]
  refine hd_take 4 (.slice none 0 0) rfl rfl (by kernel_rfl) (by kernel_rfl) (by kernel_rfl) (fun _ _ _ h => h) (fun w _ => by go_simp) hS3 ?_
  refine wpAnyH_done (by kernel_rfl) (NoPanic.normal ?_) _
  simp only [List.getElem_toArray, List.getElem_cons_succ, List.getElem_cons_zero, Act.put, List.setIfInBounds_toArray, List.set_cons_zero, List.set_cons_succ]
  have F1 := Lib.hid ((E1.setRow (cellsB before).toArray).row_ne (g' := w.heap.size + 1 + 1) (cs' := (cellsB before).toArray) (by omega))
  have F2 := Lib.hid (E2.setRow (cellsB before).toArray)
  have FB := Lib.hid (below_setRow (below_setRow BWW.drew (g := w.heap.size + 1) (by omega) (cellsB before).toArray) (g := w.heap.size + 1 + 1) (by omega) (cellsB before).toArray)
  clear hS hS2 hS3 E1 E2 BX BR1 BR2 BWW
  go_wp2_with fail
  refine bodyPost_ret (v := .tuple #[.agg (cellsB before).toArray, .agg (cellsB before).toArray, .slice none 0 0]) ?_ rfl ⟨⟨none, 0, [], rfl, rfl, RO_nil _ _, by simp⟩, FB.out⟩
  rw [results_cell2t Try.results84]
  simp [asAddr, Result.andThen, run_loadVar_row _ (w.heap.size + 1) _ _ _ (0, 0) _ F1.out under_key rfl (cellsB_size _ HK.out), run_loadVar_row _ (w.heap.size + 1 + 1) _ _ _ (0, 0) _ F2.out under_key rfl (cellsB_size _ HK.out)]

set_option maxHeartbeats 4000000 in
set_option maxRecDepth 100000 in
theorem grown_part (n : Nat) (before : List UInt8) (hl : before.length = 16) (x : List UInt8) (path : List (List UInt8)) (A : Option Addr) (c : Nat) (w : World) (hn : n ≤ 1000) (h : KR w A c (x :: path)) :
    Calls Try.prog 84 #[.agg (cellsB before).toArray, .int .i64 (n : Int), .int .i64 (n : Int), .bool false, .slice A (x :: path).length c] w (GrownEnd (growS before n n (x :: path)) w) := by
  rw [growS_end]
  unfold GrownEnd
  dsimp only
  have HZ := Lib.hid zero16
  have HK := Lib.hid hl
  have hni : (n : Int) ≤ 1000 := by omega
  have b0 := alloc3_bel w (.cells (cellsB before).toArray 23) (.cells (cellsB zeroK).toArray 23) (.cells (cellsB zeroK).toArray 23)
  have B1 := Lib.hid (blk_a1 w (.cells (cellsB before).toArray 23) (cellsB zeroK).toArray 23 (.cells (cellsB zeroK).toArray 23))
  have B2 := Lib.hid (blk_a2 w (.cells (cellsB before).toArray 23) (.cells (cellsB zeroK).toArray 23) (cellsB zeroK).toArray 23)
  rw [show (x :: path).headD before = x from rfl]
  obtain ⟨b, off, rfl, hb, hr⟩ := h.at_ (i := 0) (by simp)
  have hxl : x.length = 16 := h.2 x List.mem_cons_self
  have HX := Lib.hid hxl
  have HR : Hid ((((w.alloc (.cells (cellsB before).toArray 23)).alloc (.cells (cellsB zeroK).toArray 23)).alloc (.cells (cellsB zeroK).toArray 23)).rangeAt b off (cellsB x)) := by unfold Hid; have := range_below hr b0; simpa using this
  obtain ⟨m, hm⟩ : ∃ m, (x :: path).length = m + 1 := ⟨path.length, rfl⟩
  rw [hm]
  have hm0 : (0 : Int) < (m : Int) + 1 := by omega
  have HBW : Hid (b < w.heap.size) := hb
  clear h hl hb hr hxl hm
  go_enter Try.func84, Try.ntmps84
  go_wp2_with fail
  rw [HZ.out]
  have BR1 := B1.out
  have BR2 := B2.out
  have BWW := b0
  have BX := HR.out
  generalize ((w.alloc (.cells (cellsB before).toArray 23)).alloc (.cells (cellsB zeroK).toArray 23)).alloc (.cells (cellsB zeroK).toArray 23) = W at BX BR1 BR2 BWW ⊢
  refine wp_region_noPanic ?_
  refine wp_region_held_drew (S := fun w' => w'.rangeAt b off (cellsB x)) (by kernel_rfl) BX (fun hS => ?_)
  refine hd_take 0 (_) rfl rfl (by kernel_rfl) (by kernel_rfl) (by kernel_rfl) (fun _ _ _ h => h) (fun w _ => by go_simp <;> rfl) hS ?_
  refine hd_take 3 (_) rfl rfl (by kernel_rfl) (by kernel_rfl) (by kernel_rfl) (fun _ _ _ h => h) (fun w _ => by go_simp <;> rfl) hS ?_
  simp only [List.getElem_toArray, List.getElem_cons_succ, List.getElem_cons_zero, Act.put, List.setIfInBounds_toArray, List.set_cons_zero, List.set_cons_succ]
  refine hd_take 1 (_) rfl rfl (by kernel_rfl) (by kernel_rfl) (by kernel_rfl) (fun _ _ _ h => h) (fun w _ => by go_simp <;> rfl) hS ?_
  refine hd_take 4 (_) rfl rfl (by kernel_rfl) (by kernel_rfl) (by kernel_rfl) (fun _ _ _ h => h) (fun w _ => by go_simp <;> rfl) hS ?_
  simp only [List.getElem_toArray, List.getElem_cons_succ, List.getElem_cons_zero, Act.put, List.setIfInBounds_toArray, List.set_cons_zero, List.set_cons_succ]
  refine hd_load 2 b off (cellsB x) _ _ rfl rfl rfl (by kernel_rfl) (by kernel_rfl) (by kernel_rfl) (fun _ _ _ h => h) rfl (fun w hw => hw) under_key rfl (key_info HX.out) hS ?_
  refine hd_load 5 b off (cellsB x) _ _ rfl rfl rfl (by kernel_rfl) (by kernel_rfl) (by kernel_rfl) (fun _ _ _ h => h) rfl (fun w hw => hw) under_key rfl (key_info HX.out) hS ?_
  simp only [List.getElem_toArray, List.getElem_cons_succ, List.getElem_cons_zero, Act.put, List.setIfInBounds_toArray, List.set_cons_zero, List.set_cons_succ]
  have E1 := BR1.drew
  have hS2 := range_setRow hS (g' := w.heap.size + 1) (by have := HBW.out; omega) (cellsB x).toArray
  refine hd_store 6 (w.heap.size + 1) (cellsB x).toArray _ _ _ rfl rfl rfl (by kernel_rfl) rfl rfl E1 (cellsB_size _ HX.out) (by rw [List.size_toArray, List.size_toArray, cellsB_length, cellsB_length, HX.out]; rfl) (all_oneCell_toArray (cells_one x)) hS2 ?_
  have E2 := BR2.drew.row_ne (g' := w.heap.size + 1) (cs' := (cellsB x).toArray) (by omega)
  have hS3 := range_setRow hS2 (g' := w.heap.size + 1 + 1) (by have := HBW.out; omega) (cellsB x).toArray
  refine hd_store 7 (w.heap.size + 1 + 1) (cellsB x).toArray _ _ _ rfl rfl rfl (by kernel_rfl) rfl rfl E2 (cellsB_size _ HX.out) (by rw [List.size_toArray, List.size_toArray, cellsB_length, cellsB_length, HX.out]; rfl) (all_oneCell_toArray (cells_one x)) hS3 ?_
  simp only [List.getElem_toArray, List.getElem_cons_succ, List.getElem_cons_zero, Act.put, List.setIfInBounds_toArray, List.set_cons_zero, List.set_cons_succ]
  refine hd_take 8 (.slice none 0 0) rfl rfl (by kernel_rfl) (by kernel_rfl) (by kernel_rfl) (fun _ _ _ h => h) (fun w _ => by go_simp) hS3 ?_
  refine wpAnyH_done (by kernel_rfl) (NoPanic.normal ?_) _
  simp only [List.getElem_toArray, List.getElem_cons_succ, List.getElem_cons_zero, Act.put, List.setIfInBounds_toArray, List.set_cons_zero, List.set_cons_succ]
  have F1 := Lib.hid ((E1.setRow (cellsB x).toArray).row_ne (g' := w.heap.size + 1 + 1) (cs' := (cellsB x).toArray) (by omega))
  have F2 := Lib.hid (E2.setRow (cellsB x).toArray)
  have FB := Lib.hid (below_setRow (below_setRow BWW.drew (g := w.heap.size + 1) (by omega) (cellsB x).toArray) (g := w.heap.size + 1 + 1) (by omega) (cellsB x).toArray)
  clear hS hS2 hS3 E1 E2 BX BR1 BR2 BWW
  go_wp2_with fail
  refine bodyPost_ret (v := .tuple #[.agg (cellsB x).toArray, .agg (cellsB x).toArray, .slice none 0 0]) ?_ rfl ⟨⟨none, 0, [], rfl, rfl, RO_nil _ _, by simp⟩, FB.out⟩
  rw [results_cell2t Try.results84]
  simp [asAddr, Result.andThen, run_loadVar_row _ (w.heap.size + 1) _ _ _ (0, 0) _ F1.out under_key rfl (cellsB_size _ HX.out), run_loadVar_row _ (w.heap.size + 1 + 1) _ _ _ (0, 0) _ F2.out under_key rfl (cellsB_size _ HX.out)]
end Go.Proofs.Ytinpiodfpnbllaa

/- The two roots that a growth gives: the reference's, with its recursion. -/
namespace Go.Proofs.Ytinpiodfpnbllaa
open Go.RowKit
set_option linter.unusedVariables false
set_option linter.unusedSimpArgs false
attribute [local go_sem] run_storeCells_key run_storeCells_new

theorem src_below {w w' : World} {s n : Nat} {A : Option Addr} {xs : List Value} (h : Src w s A n xs) (hA : ∀ a, A = some a → a.block < w.heap.size) (hb : Below w.heap.size w w') : Src w' s A n xs :=
  ⟨h.1, h.2.imp id fun ⟨ad, e, hc⟩ => ⟨ad, e, fun j u hu => (hb.cell (p := ad.add j) (by have := hA ad e; unfold Addr.add; split <;> exact this)).trans (hc j u hu)⟩⟩

set_option maxHeartbeats 8000000 in
set_option maxRecDepth 100000 in
theorem refGrown_any (before : List UInt8) (hl : before.length = 16) (n : Nat) : ∀ (m : Nat) (wh : Bool) (path : List (List UInt8)) (A : Option Addr) (c : Nat) (w : World), 1 ≤ m → m ≤ n → n ≤ 1000 → path.length = partsS n m wh → KR w A c path →
    Calls Try.prog 84 #[.agg (cellsB before).toArray, .int .i64 (n : Int), .int .i64 (m : Int), .bool wh, .slice A path.length c] w (GrownEnd (growS before n m path) w) := by
  induction n using Nat.strongRecOn with
  | _ n ih =>
    intro m wh path A c w h1 hm hbig hp h
    by_cases hne : m = n
    · subst hne
      rw [partsS_end] at hp
      cases wh with
      | true =>
        obtain rfl : path = [] := List.eq_nil_of_length_eq_zero (by simpa using hp)
        exact grown_whole m before hl A c w hbig h
      | false =>
        cases path with
        | nil => simp at hp
        | cons x path => exact grown_part m before hl x path A c w hbig h
    have h2 : 2 ≤ n := by omega
    have hs1 := splitS_pos n
    have hs2 := splitS_lt h2
    have hni : (2 : Int) ≤ (n : Int) := by omega
    have hnb : (n : Int) ≤ 1000 := by omega
    have hmb : (m : Int) ≤ (n : Int) := by omega
    have hnei : ¬ (m : Int) = (n : Int) := by omega
    have hcl := Rd.le h.1
    have hcap := Rd.len h.1
    have HSP : Hid (∀ W, Calls Try.prog 127 #[.int .i64 (n : Int)] W fun e w' => e = .returned (.int .i64 ((splitS n : Nat) : Int)) ∧ W = w') := fun W => refSplit_any n W h2 (by omega)
    have b0 := alloc3_bel w (.cells (cellsB before).toArray 23) (.cells (cellsB zeroK).toArray 23) (.cells (cellsB zeroK).toArray 23)
    have B0 := Lib.hid (blk_a0 w (cellsB before).toArray 23 (.cells (cellsB zeroK).toArray 23) (.cells (cellsB zeroK).toArray 23))
    have B1 := Lib.hid (blk_a1 w (.cells (cellsB before).toArray 23) (cellsB zeroK).toArray 23 (.cells (cellsB zeroK).toArray 23))
    have B2 := Lib.hid (blk_a2 w (.cells (cellsB before).toArray 23) (.cells (cellsB zeroK).toArray 23) (cellsB zeroK).toArray 23)
    have HZ := Lib.hid zero16
    have HK := Lib.hid hl
    by_cases hk : m ≤ splitS n
    · skip
      have hki : (m : Int) ≤ ((splitS n : Nat) : Int) := by omega
      obtain ⟨l, hl1⟩ : ∃ l, path.length = l + 1 := ⟨path.length - 1, by rw [hp, partsS_low wh h2 hne hk]; omega⟩
      rw [growS_low _ _ h2 hne hk]
      have hle := growS_le before (splitS n) m (initK path)
      obtain ⟨hpl, hql⟩ := growS_length hl (splitS n) m (path := initK path) (fun k hk => h.2 k (initK_mem hk))
      have HC : Hid (∀ W, Below w.heap.size w W → Calls Try.prog 84 #[.agg (cellsB before).toArray, .int .i64 ((splitS n : Nat) : Int), .int .i64 (m : Int), .bool wh, .slice A l c] W (GrownEnd (growS before (splitS n) m (initK path)) W)) := fun W hW => by
        have hlen : l = (initK path).length := by rw [initK_length, hl1]; omega
        rw [hlen]
        exact ih (splitS n) hs2 m wh (initK path) A c W h1 hk (by omega) (by rw [initK_length, hp, partsS_low wh h2 hne hk]; omega) (h.below hW).init
      obtain ⟨b, off, rfl, hb, hr, hhl⟩ := h.lastAt hl1
      have HR : Hid (∀ W, Below w.heap.size w W → W.rangeAt b (off + l * 16) (cellsB (lastK path))) := fun W hW => range_below hr hW
      have HH := Lib.hid hhl
      have hli : (l : Int) ≤ 140737488351232 := by omega
      have hlc : l ≤ c := by omega
      have hllt : (l : Int) < (l : Int) + 1 := by omega
      have hsl := fun W => slice_keys_to W (some ⟨b, off, none⟩) (l + 1) c l hlc
      have hwl : IntKind.i64.wrap ((l : Nat) : Int) = (l : Int) := by rw [IntKind.wrap_i64]; omega
      generalize growS before (splitS n) m (initK path) = r at HC hle hpl hql ⊢
      obtain ⟨p, q, x⟩ := r
      unfold GrownEnd at HC ⊢
      dsimp only at HC hle hpl hql ⊢
      generalize lastK path = h0 at HR HH ⊢
      rw [hl1]
      generalize splitS n = k at *
      have HPL := Lib.hid hpl
      have HQL := Lib.hid hql
      have HXN : Hid (x.length ≤ 4000) := by unfold Hid; omega
      have hpc : (cellsB p).length = 16 := by rw [cellsB_length, hpl]
      have hpa := all16 p
      have hqc : (cellsB q).length = 16 := by rw [cellsB_length, hql]
      have hqa := all16 q
      have HNT1 : Hid (∀ W, Calls Try.prog 128 #[.agg (cellsB q).toArray, .agg (cellsB h0).toArray] W fun e w' => (∃ A c, e = .returned (.slice A 33 c) ∧ OB W.heap.size w' A c (nodeT q h0)) ∧ Below W.heap.size W w') := fun W => refNodeText_any q h0 W (by first | exact HPL.out | exact HQL.out | exact HH.out) (by first | exact HH.out | exact HPL.out | exact HQL.out)
      have HNL1 : Hid ((nodeT q h0).length = 33) := by unfold Hid nodeT; simp [HPL.out, HQL.out, HH.out]
      generalize nodeT q h0 = t1 at HNT1 HNL1 ⊢
      have HD1 : Hid (∀ X d W, BR W X d t1 → Calls Try.prog 125 #[.slice X 33 d] W fun e w' => e = .returned (.agg (cellsB (digS t1)).toArray) ∧ Below W.heap.size W w') := fun X d W h => refDigest_any t1 X d W HNL1.out h (by omega)
      have HDL1 : Hid ((digS t1).length = 16) := digS_length _
      generalize digS t1 = d1 at HDL1 HD1 ⊢
      have hdc1 : (cellsB d1).length = 16 := by rw [cellsB_length, HDL1.out]
      have hda1 := all16 d1
      have HBW : Hid (b < w.heap.size) := hb
      clear ih h hp hl1 hle hr hhl hb hl hpl hql
      go_enter Try.func84, Try.ntmps84
      go_wp2_with (go_at_call 127; rw [HZ.out]; refine (HSP.out _).mono ?_; rintro e w1 ⟨rfl, rfl⟩)
      obtain ⟨W0, hW0⟩ : ∃ W : World, W = ((w.alloc (.cells (cellsB before).toArray 23)).alloc (.cells (cellsB zeroK).toArray 23)).alloc (.cells (cellsB zeroK).toArray 23) := ⟨_, rfl⟩
      have hz0 : W0.heap.size = w.heap.size + 1 + 1 + 1 := by rw [hW0]; simp
      rw [← hW0] at b0 B0 B1 B2 ⊢
      clear hW0
      refine wp_region_noPanic ?_
      have bw : Below w.heap.size w W0.drew := b0.drew
      refine wp_region_held_drew (S := fun w' => w'.rangeAt b (off + l * 16) (cellsB h0)) (by kernel_rfl) (HR.out _ bw) (fun hS => ?_)
      refine hd_take 0 (_) rfl rfl (by kernel_rfl) (by kernel_rfl) (by kernel_rfl) (fun _ _ _ h => h) (fun w _ => by go_simp <;> rfl) hS ?_
      refine hd_take 1 (_) rfl rfl (by kernel_rfl) (by kernel_rfl) (by kernel_rfl) (fun _ _ _ h => h) (fun w _ => by go_simp <;> rfl) hS ?_
      refine hd_take 5 (_) rfl rfl (by kernel_rfl) (by kernel_rfl) (by kernel_rfl) (fun _ _ _ h => h) (fun w _ => by go_simp <;> rfl) hS ?_
      refine hd_take 6 (_) rfl rfl (by kernel_rfl) (by kernel_rfl) (by kernel_rfl) (fun _ _ _ h => h) (fun w _ => by go_simp <;> rfl) hS ?_
      simp only [List.getElem_toArray, List.getElem_cons_succ, List.getElem_cons_zero, Act.put, List.setIfInBounds_toArray, List.set_cons_zero, List.set_cons_succ]
      refine hd_take 2 (_) rfl rfl (by kernel_rfl) (by kernel_rfl) (by kernel_rfl) (fun _ _ _ h => h) (fun w _ => by go_simp <;> rfl) hS ?_
      refine hd_take 7 (_) rfl rfl (by kernel_rfl) (by kernel_rfl) (by kernel_rfl) (fun _ _ _ h => h) (fun w _ => by go_simp <;> rfl) hS ?_
      simp only [List.getElem_toArray, List.getElem_cons_succ, List.getElem_cons_zero, Act.put, List.setIfInBounds_toArray, List.set_cons_zero, List.set_cons_succ]
      refine hd_take 3 (_) rfl rfl (by kernel_rfl) (by kernel_rfl) (by kernel_rfl) (fun _ _ _ h => h) (fun w _ => by go_simp <;> rfl) hS ?_
      refine hd_take 8 (_) rfl rfl (by kernel_rfl) (by kernel_rfl) (by kernel_rfl) (fun _ _ _ h => h) (fun w _ => by go_simp <;> rfl) hS ?_
      simp only [List.getElem_toArray, List.getElem_cons_succ, List.getElem_cons_zero, Act.put, List.setIfInBounds_toArray, List.set_cons_zero, List.set_cons_succ]
      refine hd_take 4 (_) rfl rfl (by kernel_rfl) (by kernel_rfl) (by kernel_rfl) (fun _ _ _ h => h) (fun w _ => by go_simp <;> rfl) hS ?_
      refine hd_take 9 (_) rfl rfl (by kernel_rfl) (by kernel_rfl) (by kernel_rfl) (fun _ _ _ h => h) (fun w _ => by go_simp <;> rfl) hS ?_
      simp only [List.getElem_toArray, List.getElem_cons_succ, List.getElem_cons_zero, Act.put, List.setIfInBounds_toArray, List.set_cons_zero, List.set_cons_succ]
      refine hd_load 10 b (off + l * 16) (cellsB h0) _ _ rfl rfl rfl (by kernel_rfl) (by kernel_rfl) (by kernel_rfl) (fun _ _ _ h => h) rfl (fun w hw => hw) under_key rfl (key_info HH.out) hS ?_
      simp only [List.getElem_toArray, List.getElem_cons_succ, List.getElem_cons_zero, Act.put, List.setIfInBounds_toArray, List.set_cons_zero, List.set_cons_succ]
      have BA := alloc_bel W0.drew (.cells (cellsB zeroK).toArray 23)
      refine hd_sole 11 (by kernel_rfl) (op_run (.pointer (some ⟨W0.heap.size, 0, none⟩)) (W0.drew.alloc (.cells (cellsB zeroK).toArray 23)) rfl rfl (by rw [← HZ.out]; go_simp) ⟨HR.out _ (bel_on bw BA), ?_⟩)
      simp only [List.getElem_toArray, List.getElem_cons_succ, List.getElem_cons_zero, Act.put, List.setIfInBounds_toArray, List.set_cons_zero, List.set_cons_succ]
      have hS2 : (W0.drew.alloc (.cells (cellsB zeroK).toArray 23)).rangeAt b (off + l * 16) (cellsB h0) := HR.out _ (bel_on bw BA)
      refine hd_take 12 (.slice (some ⟨b, off, none⟩) l c) rfl rfl (by kernel_rfl) (by kernel_rfl) (by kernel_rfl) (fun _ _ _ h => h) (fun w _ => by go_simp) hS2 ?_
      simp only [List.getElem_toArray, List.getElem_cons_succ, List.getElem_cons_zero, Act.put, List.setIfInBounds_toArray, List.set_cons_zero, List.set_cons_succ]
      have N1 : Blk (W0.drew.alloc (.cells (cellsB zeroK).toArray 23)) W0.heap.size 23 (cellsB zeroK).toArray := Blk.new W0.drew _ _
      have hbb : W0.heap.size ≠ b := by have := HBW.out; omega
      have hS3 := range_setRow hS2 (g' := W0.heap.size) (by omega) (cellsB h0).toArray
      refine hd_store 13 W0.heap.size (cellsB h0).toArray _ _ _ rfl rfl rfl (by kernel_rfl) rfl rfl N1 (cellsB_size _ HH.out) (by rw [List.size_toArray, List.size_toArray, cellsB_length, cellsB_length, HH.out]; rfl) (all_oneCell_toArray (cells_one h0)) hS3 ?_
      refine wpAnyH_done (by kernel_rfl) (NoPanic.normal ?_) _
      have H1 := Lib.hid (N1.setRow (cellsB h0).toArray)
      have L1 := Lib.hid ((B0.out.drew.alloc (.cells (cellsB zeroK).toArray 23)).row_ne (g' := W0.heap.size) (cs' := (cellsB h0).toArray) (by omega))
      have R1 := Lib.hid ((B1.out.drew.alloc (.cells (cellsB zeroK).toArray 23)).row_ne (g' := W0.heap.size) (cs' := (cellsB h0).toArray) (by omega))
      have Q1 := Lib.hid ((B2.out.drew.alloc (.cells (cellsB zeroK).toArray 23)).row_ne (g' := W0.heap.size) (cs' := (cellsB h0).toArray) (by omega))
      have BW := below_setRow (bel_on bw BA) (g := W0.heap.size) (by omega) (cellsB h0).toArray
      have hz1 : W0.heap.size < ((W0.drew.alloc (.cells (cellsB zeroK).toArray 23)).setRow W0.heap.size (cellsB h0).toArray).heap.size := by simp [World.setRow]
      generalize (W0.drew.alloc (.cells (cellsB zeroK).toArray 23)).setRow W0.heap.size (cellsB h0).toArray = W1 at H1 L1 R1 Q1 BW hz1 ⊢
      have HZ0 := Lib.hid hz0
      clear hS hS2 hS3 N1 BA bw hbb hz0
      go_wp2_with (first
        | (refine wpList_load_row rfl 23 (.tmp 5) rfl w.heap.size rfl 23 (cellsB before).toArray (0, 0) _ L1.out under_key rfl (cellsB_size _ HK.out) ?_)
        | (go_at_call 84; refine (HC.out _ BW).mono ?_; rintro e w2 ⟨⟨X2, x2, rs2, rfl, ho2⟩, hb2⟩; have z2 : W1.heap.size ≤ w2.heap.size := hb2.size; have D2 := bel_on BW hb2; have H2 := H1.out.below' hb2; have R2 := R1.out.below' hb2; have Q2 := Q1.out.below' hb2; have PB := blk_b0 w2 (cellsB zeroK).toArray 23 (.cells (cellsB zeroK).toArray 23); have QB := blk_b1 w2 (.cells (cellsB zeroK).toArray 23) (cellsB zeroK).toArray 23; have QB1 := QB.row_ne (g' := w2.heap.size) (cs' := (cellsB p).toArray) (by omega); have hrA : (rowAt ((w2.alloc (.cells #[.int .u8 0, .int .u8 0, .int .u8 0, .int .u8 0, .int .u8 0, .int .u8 0, .int .u8 0, .int .u8 0, .int .u8 0, .int .u8 0, .int .u8 0, .int .u8 0, .int .u8 0, .int .u8 0, .int .u8 0, .int .u8 0] 23)).alloc (.cells #[.int .u8 0, .int .u8 0, .int .u8 0, .int .u8 0, .int .u8 0, .int .u8 0, .int .u8 0, .int .u8 0, .int .u8 0, .int .u8 0, .int .u8 0, .int .u8 0, .int .u8 0, .int .u8 0, .int .u8 0, .int .u8 0] 23)) w2.heap.size).size = 16 := (by rw [HZ.out, PB.row]; rfl); have hfA : rowFree ((w2.alloc (.cells #[.int .u8 0, .int .u8 0, .int .u8 0, .int .u8 0, .int .u8 0, .int .u8 0, .int .u8 0, .int .u8 0, .int .u8 0, .int .u8 0, .int .u8 0, .int .u8 0, .int .u8 0, .int .u8 0, .int .u8 0, .int .u8 0] 23)).alloc (.cells #[.int .u8 0, .int .u8 0, .int .u8 0, .int .u8 0, .int .u8 0, .int .u8 0, .int .u8 0, .int .u8 0, .int .u8 0, .int .u8 0, .int .u8 0, .int .u8 0, .int .u8 0, .int .u8 0, .int .u8 0, .int .u8 0] 23)) w2.heap.size = true := (by rw [HZ.out]; exact PB.free); have hrB : (rowAt (((w2.alloc (.cells #[.int .u8 0, .int .u8 0, .int .u8 0, .int .u8 0, .int .u8 0, .int .u8 0, .int .u8 0, .int .u8 0, .int .u8 0, .int .u8 0, .int .u8 0, .int .u8 0, .int .u8 0, .int .u8 0, .int .u8 0, .int .u8 0] 23)).alloc (.cells #[.int .u8 0, .int .u8 0, .int .u8 0, .int .u8 0, .int .u8 0, .int .u8 0, .int .u8 0, .int .u8 0, .int .u8 0, .int .u8 0, .int .u8 0, .int .u8 0, .int .u8 0, .int .u8 0, .int .u8 0, .int .u8 0] 23)).setRow w2.heap.size (cellsB p).toArray) (w2.heap.size + 1)).size = 16 := (by rw [HZ.out, QB1.row]; rfl); have hfB : rowFree (((w2.alloc (.cells #[.int .u8 0, .int .u8 0, .int .u8 0, .int .u8 0, .int .u8 0, .int .u8 0, .int .u8 0, .int .u8 0, .int .u8 0, .int .u8 0, .int .u8 0, .int .u8 0, .int .u8 0, .int .u8 0, .int .u8 0, .int .u8 0] 23)).alloc (.cells #[.int .u8 0, .int .u8 0, .int .u8 0, .int .u8 0, .int .u8 0, .int .u8 0, .int .u8 0, .int .u8 0, .int .u8 0, .int .u8 0, .int .u8 0, .int .u8 0, .int .u8 0, .int .u8 0, .int .u8 0, .int .u8 0] 23)).setRow w2.heap.size (cellsB p).toArray) (w2.heap.size + 1) = true := (by rw [HZ.out]; exact QB1.free); generalize hq2 : rs2.length = k2; have HQ2 := Lib.hid hq2; have HH2 := Lib.hid H2; have HR2 := Lib.hid R2; have HQ2r := Lib.hid Q2; have HPB := Lib.hid PB; have HQB := Lib.hid QB1; have HO2 := Lib.hid ho2; have HLT := Lib.hid (show W0.heap.size < w2.heap.size from by omega); clear hq2 H2 R2 Q2 PB QB QB1 ho2 hb2)
        | (rw [HZ.out]; have E2 := alloc2_bel w2 (.cells (cellsB zeroK).toArray 23) (.cells (cellsB zeroK).toArray 23); have P3 := (HPB.out.setRow (cellsB p).toArray).row_ne (g' := w2.heap.size + 1) (cs' := (cellsB q).toArray) (by omega); have Q3 := HQB.out.setRow (cellsB q).toArray; have H3 := ((HH2.out.below' E2).row_ne (g' := w2.heap.size) (cs' := (cellsB p).toArray) (by have := HLT.out; have := HZ0.out; omega)).row_ne (g' := w2.heap.size + 1) (cs' := (cellsB q).toArray) (by have := HLT.out; have := HZ0.out; omega); have R3 := ((HR2.out.below' E2).row_ne (g' := w2.heap.size) (cs' := (cellsB p).toArray) (by have := HLT.out; have := HZ0.out; omega)).row_ne (g' := w2.heap.size + 1) (cs' := (cellsB q).toArray) (by have := HLT.out; have := HZ0.out; omega); have S3 := ((HQ2r.out.below' E2).row_ne (g' := w2.heap.size) (cs' := (cellsB p).toArray) (by have := HLT.out; have := HZ0.out; omega)).row_ne (g' := w2.heap.size + 1) (cs' := (cellsB q).toArray) (by have := HLT.out; have := HZ0.out; omega); have T3 := ((HO2.out.below E2).row HPB.out (cellsB p).toArray).row HQB.out (cellsB q).toArray; have D3 := below_setRow (below_setRow (bel_on D2 E2) (g := w2.heap.size) (by have := HLT.out; have := HZ0.out; omega) (cellsB p).toArray) (g := w2.heap.size + 1) (by have := HLT.out; have := HZ0.out; omega) (cellsB q).toArray; have z3 : W1.heap.size ≤ ((((w2.alloc (.cells (cellsB zeroK).toArray 23)).alloc (.cells (cellsB zeroK).toArray 23)).setRow w2.heap.size (cellsB p).toArray).setRow (w2.heap.size + 1) (cellsB q).toArray).heap.size := (by simp [World.setRow]; omega); generalize ((((w2.alloc (.cells (cellsB zeroK).toArray 23)).alloc (.cells (cellsB zeroK).toArray 23)).setRow w2.heap.size (cellsB p).toArray).setRow (w2.heap.size + 1) (cellsB q).toArray) = W3 at P3 Q3 H3 R3 S3 T3 D3 z3 ⊢; have P3 := Lib.hid P3; have Q3 := Lib.hid Q3; have H3 := Lib.hid H3; have R3 := Lib.hid R3; have S3 := Lib.hid S3; have T3 := Lib.hid T3; clear hrA hfA hrB hfB E2 HPB HQB HH2 HR2 HQ2r HO2; refine wpList_load_row rfl 23 (.tmp 17) rfl (w2.heap.size + 1) rfl 23 (cellsB q).toArray (0, 0) _ Q3.out under_key rfl (cellsB_size _ HQL.out) ?_)
        | (refine wpList_load_row rfl 23 (.tmp 15) rfl W0.heap.size rfl 23 (cellsB h0).toArray (0, 0) _ H3.out under_key rfl (cellsB_size _ HH.out) ?_)
        | (go_at_call 128; refine (HNT1.out _).mono ?_; rintro e w4 ⟨⟨A4, c4, rfl, ho4⟩, hb4⟩; have P4 := Lib.hid (P3.out.below' hb4); have R4 := Lib.hid (R3.out.below' hb4); have S4 := Lib.hid (S3.out.below' hb4); have T4 := Lib.hid (T3.out.below hb4); have O4 := Lib.hid (ho4.le_ z3); have D4 := bel_on D3 hb4; have z4 : W1.heap.size ≤ w4.heap.size := Nat.le_trans z3 hb4.size; clear ho4 hb4))
      refine wp_region_noPanic ?_
      have HP5 := P4.out.drew
      refine wp_region_held_drew (S := fun w' => w'.rangeAt w2.heap.size 0 (cellsB p)) (by kernel_rfl) HP5.range (fun hS => ?_)
      refine hd_take 1 (_) rfl rfl (by kernel_rfl) (by kernel_rfl) (by kernel_rfl) (fun _ _ _ h => h) (fun w _ => by go_simp <;> rfl) hS ?_
      refine hd_take 3 (_) rfl rfl (by kernel_rfl) (by kernel_rfl) (by kernel_rfl) (fun _ _ _ h => h) (fun w _ => by go_simp <;> rfl) hS ?_
      refine hd_take 4 (_) rfl rfl (by kernel_rfl) (by kernel_rfl) (by kernel_rfl) (fun _ _ _ h => h) (fun w _ => by go_simp <;> rfl) hS ?_
      simp only [List.getElem_toArray, List.getElem_cons_succ, List.getElem_cons_zero, Act.put, List.setIfInBounds_toArray, List.set_cons_zero, List.set_cons_succ]
      refine hd_load 0 w2.heap.size 0 (cellsB p) _ _ rfl rfl rfl (by kernel_rfl) (by kernel_rfl) (by kernel_rfl) (fun _ _ _ h => h) rfl (fun w hw => hw) under_key rfl (key_info HPL.out) hS ?_
      simp only [List.getElem_toArray, List.getElem_cons_succ, List.getElem_cons_zero, Act.put, List.setIfInBounds_toArray, List.set_cons_zero, List.set_cons_succ]
      refine' (fun (HIN : ∀ (ga : Nat) (W5 : World), (Below w4.drew.heap.size w4.drew W5 ∧ Src W5 1 (some ⟨ga, 0, none⟩) 1 [.slice A4 33 c4]) → (_ : Nat → World → Prop) ga W5) => _) _
      rotate_left
      · refine hd_two 2 5 (by kernel_rfl) (op_call 125 #[.slice A4 33 c4] rfl rfl (by go_simp) ((HD1.out _ _ _ (OB.br (O4.out.below (Below.refl _ _).drew) (by rw [HNL1.out]; omega))).mono ?_)) (op_run (.slice (some ⟨w4.heap.size, 0, none⟩) 1 1) (w4.drew.alloc (.cells #[.slice A4 33 c4] 24)) rfl rfl (by go_simp) ⟨HP5.alloc _ |>.range, ?_⟩)
        · rintro e w5 ⟨rfl, hb5⟩
          refine ⟨_, rfl, (HP5.below' hb5).range, ?_⟩
          simp only [List.getElem_toArray, List.getElem_cons_succ, List.getElem_cons_zero, Act.put, List.setIfInBounds_toArray, List.set_cons_zero, List.set_cons_succ]
          refine hd_sole 5 (by kernel_rfl) (op_run (.slice (some ⟨w5.heap.size, 0, none⟩) 1 1) (w5.alloc (.cells #[.slice A4 33 c4] 24)) rfl rfl (by go_simp) ⟨((HP5.below' hb5).alloc _).range, ?_⟩)
          simp only [List.getElem_toArray, List.getElem_cons_succ, List.getElem_cons_zero, Act.put, List.setIfInBounds_toArray, List.set_cons_zero, List.set_cons_succ]
          have hpp := And.intro (bel_on hb5 (alloc_bel w5 (.cells #[.slice A4 33 c4] 24))) (src_one w5 (.slice A4 33 c4) 24)
          obtain ⟨ga, hga⟩ : ∃ k, k = w5.heap.size := ⟨_, rfl⟩
          obtain ⟨W5, hW5⟩ : ∃ V : World, V = w5.alloc (.cells #[.slice A4 33 c4] 24) := ⟨_, rfl⟩
          rw [← hW5, ← hga] at hpp
          rw [← hW5, ← hga]
          exact HIN ga W5 hpp
        · simp only [List.getElem_toArray, List.getElem_cons_succ, List.getElem_cons_zero, Act.put, List.setIfInBounds_toArray, List.set_cons_zero, List.set_cons_succ]
          have BL := alloc_bel w4.drew (.cells #[.slice A4 33 c4] 24)
          refine hd_calls 2 125 #[.slice A4 33 c4] rfl rfl (by kernel_rfl) (by go_simp) ((HD1.out _ _ _ (OB.br ((O4.out.below (Below.refl _ _).drew).below BL) (by rw [HNL1.out]; omega))).mono ?_)
          rintro e w5 ⟨rfl, hb5⟩
          refine ⟨_, rfl, ((HP5.alloc _).below' hb5).range, ?_⟩
          simp only [List.getElem_toArray, List.getElem_cons_succ, List.getElem_cons_zero, Act.put, List.setIfInBounds_toArray, List.set_cons_zero, List.set_cons_succ]
          exact HIN _ _ ⟨bel_on BL hb5, src_below (src_one w4.drew (.slice A4 33 c4) 24) (fun a h => by injection h with h; rw [← h]; simp) hb5⟩
      · skip
        intro ga W5 hpp
        obtain ⟨hb5, hsrc⟩ := hpp
        have b5 : Below w4.heap.size w4 W5 := bel_on (Below.refl _ _).drew hb5
        have P5 := P4.out.below' b5
        have R5 := R4.out.below' b5
        have S5 := S4.out.below' b5
        have T5 := T4.out.below b5
        have O5 := O4.out.below b5
        have D5 := bel_on D4 b5
        have z5 : W1.heap.size ≤ W5.heap.size := Nat.le_trans z4 b5.size
        refine hd_appendR 6 (.tmp 69) (.tmp 71) rfl rfl rfl (by kernel_rfl) W1.heap.size X2 k2 x2 rs2 HQ2.out rfl T5.2.1 (some ⟨ga, 0, none⟩) 1 1 [⟨A4, c4, t1⟩] rfl rfl (by simpa only [List.map_cons, List.map_nil, BRow.v, HNL1.out] using hsrc) (by have := T5.len; rw [HQ2.out] at this; have := HXN.out; omega) z5 ?_
        intro A6 c6 w6 ro6 hb6 hg6
        rw [← HQ2.out] at hg6
        have T6 := T5.snoc O5 ro6 hg6
        have P6 := P5.grown T5.2.1 (by decide) hg6
        have R6 := R5.grown T5.2.1 (by decide) hg6
        have S6 := S5.grown T5.2.1 (by decide) hg6
        have D6 : Below w.heap.size w w6 := D5.trans (hb6.mono BW.size)
        refine ⟨P6.range, ?_⟩
        simp only [List.getElem_toArray, List.getElem_cons_succ, List.getElem_cons_zero, Act.put, List.setIfInBounds_toArray, List.set_cons_zero, List.set_cons_succ]
        have hw2 : w2.heap.size ≠ w.heap.size + 1 ∧ w2.heap.size ≠ w.heap.size + 1 + 1 := by have := HLT.out; have := HZ0.out; omega
        have hSx := range_setRow P6.range (g' := w.heap.size + 1) hw2.1 (cellsB p).toArray
        refine hd_store 7 (w.heap.size + 1) (cellsB p).toArray _ _ _ rfl rfl rfl (by kernel_rfl) rfl rfl R6 (cellsB_size _ HPL.out) (by rw [List.size_toArray, List.size_toArray, cellsB_length, cellsB_length, HPL.out]; rfl) (all_oneCell_toArray (cells_one p)) hSx ?_
        have S7 := S6.row_ne (g' := w.heap.size + 1) (cs' := (cellsB p).toArray) (by omega)
        have hSy := range_setRow hSx (g' := w.heap.size + 1 + 1) hw2.2 (cellsB d1).toArray
        refine hd_store 8 (w.heap.size + 1 + 1) (cellsB d1).toArray _ _ _ rfl rfl rfl (by kernel_rfl) rfl rfl S7 (cellsB_size _ HDL1.out) (by rw [List.size_toArray, List.size_toArray, cellsB_length, cellsB_length, HDL1.out]; rfl) (all_oneCell_toArray (cells_one d1)) hSy ?_
        simp only [List.getElem_toArray, List.getElem_cons_succ, List.getElem_cons_zero, Act.put, List.setIfInBounds_toArray, List.set_cons_zero, List.set_cons_succ]
        refine hd_take 9 (.slice A6 (k2 + 1) c6) rfl rfl (by kernel_rfl) (by kernel_rfl) (by kernel_rfl) (fun _ _ _ h => h) (fun w _ => by go_simp) hSy ?_
        refine wpAnyH_done (by kernel_rfl) (NoPanic.normal ?_) _
        simp only [List.getElem_toArray, List.getElem_cons_succ, List.getElem_cons_zero, Act.put, List.setIfInBounds_toArray, List.set_cons_zero, List.set_cons_succ]
        have F1 := Lib.hid ((R6.setRow (cellsB p).toArray).row_ne (g' := w.heap.size + 1 + 1) (cs' := (cellsB d1).toArray) (by omega))
        have F2 := Lib.hid (S7.setRow (cellsB d1).toArray)
        have FT := Lib.hid ((T6.row R6 (cellsB p).toArray).row S7 (cellsB d1).toArray)
        have FB := Lib.hid (below_setRow (below_setRow D6 (g := w.heap.size + 1) (by omega) (cellsB p).toArray) (g := w.heap.size + 1 + 1) (by omega) (cellsB d1).toArray)
        clear hS hSx hSy S7 T6 P6 R6 S6 ro6 hg6 P5 R5 S5 T5 O5
        go_wp2_with fail
        refine bodyPost_ret (v := .tuple #[.agg (cellsB p).toArray, .agg (cellsB d1).toArray, .slice A6 (k2 + 1) c6]) ?_ rfl ⟨⟨_, _, rs2 ++ [⟨A4, c4, t1⟩], by rw [List.length_append, HQ2.out]; rfl, FT.out.le_ BW.size⟩, FB.out⟩
        rw [results_cell2t Try.results84]
        simp [asAddr, Result.andThen, run_loadVar_row _ (w.heap.size + 1) _ _ _ (0, 0) _ F1.out under_key rfl (cellsB_size _ HPL.out), run_loadVar_row _ (w.heap.size + 1 + 1) _ _ _ (0, 0) _ F2.out under_key rfl (cellsB_size _ HDL1.out)]
    · skip
      have hki : ¬ (m : Int) ≤ ((splitS n : Nat) : Int) := by omega
      have hki2 : ((splitS n : Nat) : Int) < (m : Int) := by omega
      have hkn : ((splitS n : Nat) : Int) < (n : Int) := by omega
      obtain ⟨l, hl1⟩ : ∃ l, path.length = l + 1 := ⟨path.length - 1, by rw [hp, partsS_high wh h2 hne hk]; omega⟩
      rw [growS_high _ _ h2 hne hk]
      have hle := growS_le before (n - splitS n) (m - splitS n) (initK path)
      obtain ⟨hpl, hql⟩ := growS_length hl (n - splitS n) (m - splitS n) (path := initK path) (fun k hk => h.2 k (initK_mem hk))
      have HC : Hid (∀ W, Below w.heap.size w W → Calls Try.prog 84 #[.agg (cellsB before).toArray, .int .i64 ((n : Int) - ((splitS n : Nat) : Int)), .int .i64 ((m : Int) - ((splitS n : Nat) : Int)), .bool false, .slice A l c] W (GrownEnd (growS before (n - splitS n) (m - splitS n) (initK path)) W)) := fun W hW => by
        have hlen : l = (initK path).length := by rw [initK_length, hl1]; omega
        rw [hlen]
        rw [show (n : Int) - ((splitS n : Nat) : Int) = ((n - splitS n : Nat) : Int) from by omega, show (m : Int) - ((splitS n : Nat) : Int) = ((m - splitS n : Nat) : Int) from by omega]
        exact ih (n - splitS n) (by omega) (m - splitS n) false (initK path) A c W (by omega) (by omega) (by omega) (by rw [initK_length, hp, partsS_high wh h2 hne hk]; omega) (h.below hW).init
      obtain ⟨b, off, rfl, hb, hr, hhl⟩ := h.lastAt hl1
      have HR : Hid (∀ W, Below w.heap.size w W → W.rangeAt b (off + l * 16) (cellsB (lastK path))) := fun W hW => range_below hr hW
      have HH := Lib.hid hhl
      have hli : (l : Int) ≤ 140737488351232 := by omega
      have hlc : l ≤ c := by omega
      have hllt : (l : Int) < (l : Int) + 1 := by omega
      have hsl := fun W => slice_keys_to W (some ⟨b, off, none⟩) (l + 1) c l hlc
      have hwl : IntKind.i64.wrap ((l : Nat) : Int) = (l : Int) := by rw [IntKind.wrap_i64]; omega
      generalize growS before (n - splitS n) (m - splitS n) (initK path) = r at HC hle hpl hql ⊢
      obtain ⟨p, q, x⟩ := r
      unfold GrownEnd at HC ⊢
      dsimp only at HC hle hpl hql ⊢
      generalize lastK path = h0 at HR HH ⊢
      rw [hl1]
      generalize splitS n = k at *
      have HPL := Lib.hid hpl
      have HQL := Lib.hid hql
      have HXN : Hid (x.length ≤ 4000) := by unfold Hid; omega
      have hpc : (cellsB p).length = 16 := by rw [cellsB_length, hpl]
      have hpa := all16 p
      have hqc : (cellsB q).length = 16 := by rw [cellsB_length, hql]
      have hqa := all16 q
      have HNT1 : Hid (∀ W, Calls Try.prog 128 #[.agg (cellsB h0).toArray, .agg (cellsB p).toArray] W fun e w' => (∃ A c, e = .returned (.slice A 33 c) ∧ OB W.heap.size w' A c (nodeT h0 p)) ∧ Below W.heap.size W w') := fun W => refNodeText_any h0 p W (by first | exact HPL.out | exact HQL.out | exact HH.out) (by first | exact HH.out | exact HPL.out | exact HQL.out)
      have HNL1 : Hid ((nodeT h0 p).length = 33) := by unfold Hid nodeT; simp [HPL.out, HQL.out, HH.out]
      generalize nodeT h0 p = t1 at HNT1 HNL1 ⊢
      have HD1 : Hid (∀ X d W, BR W X d t1 → Calls Try.prog 125 #[.slice X 33 d] W fun e w' => e = .returned (.agg (cellsB (digS t1)).toArray) ∧ Below W.heap.size W w') := fun X d W h => refDigest_any t1 X d W HNL1.out h (by omega)
      have HDL1 : Hid ((digS t1).length = 16) := digS_length _
      generalize digS t1 = d1 at HDL1 HD1 ⊢
      have hdc1 : (cellsB d1).length = 16 := by rw [cellsB_length, HDL1.out]
      have hda1 := all16 d1
      have HNT2 : Hid (∀ W, Calls Try.prog 128 #[.agg (cellsB h0).toArray, .agg (cellsB q).toArray] W fun e w' => (∃ A c, e = .returned (.slice A 33 c) ∧ OB W.heap.size w' A c (nodeT h0 q)) ∧ Below W.heap.size W w') := fun W => refNodeText_any h0 q W (by first | exact HPL.out | exact HQL.out | exact HH.out) (by first | exact HH.out | exact HPL.out | exact HQL.out)
      have HNL2 : Hid ((nodeT h0 q).length = 33) := by unfold Hid nodeT; simp [HPL.out, HQL.out, HH.out]
      generalize nodeT h0 q = t2 at HNT2 HNL2 ⊢
      have HD2 : Hid (∀ X d W, BR W X d t2 → Calls Try.prog 125 #[.slice X 33 d] W fun e w' => e = .returned (.agg (cellsB (digS t2)).toArray) ∧ Below W.heap.size W w') := fun X d W h => refDigest_any t2 X d W HNL2.out h (by omega)
      have HDL2 : Hid ((digS t2).length = 16) := digS_length _
      generalize digS t2 = d2 at HDL2 HD2 ⊢
      have hdc2 : (cellsB d2).length = 16 := by rw [cellsB_length, HDL2.out]
      have hda2 := all16 d2
      have HBW : Hid (b < w.heap.size) := hb
      clear ih h hp hl1 hle hr hhl hb hl hpl hql
      go_enter Try.func84, Try.ntmps84
      go_wp2_with (go_at_call 127; rw [HZ.out]; refine (HSP.out _).mono ?_; rintro e w1 ⟨rfl, rfl⟩)
      obtain ⟨W0, hW0⟩ : ∃ W : World, W = ((w.alloc (.cells (cellsB before).toArray 23)).alloc (.cells (cellsB zeroK).toArray 23)).alloc (.cells (cellsB zeroK).toArray 23) := ⟨_, rfl⟩
      have hz0 : W0.heap.size = w.heap.size + 1 + 1 + 1 := by rw [hW0]; simp
      rw [← hW0] at b0 B0 B1 B2 ⊢
      clear hW0
      refine wp_region_noPanic ?_
      have bw : Below w.heap.size w W0.drew := b0.drew
      refine wp_region_held_drew (S := fun w' => w'.rangeAt b (off + l * 16) (cellsB h0)) (by kernel_rfl) (HR.out _ bw) (fun hS => ?_)
      refine hd_take 0 (_) rfl rfl (by kernel_rfl) (by kernel_rfl) (by kernel_rfl) (fun _ _ _ h => h) (fun w _ => by go_simp <;> rfl) hS ?_
      refine hd_take 1 (_) rfl rfl (by kernel_rfl) (by kernel_rfl) (by kernel_rfl) (fun _ _ _ h => h) (fun w _ => by go_simp <;> rfl) hS ?_
      refine hd_take 5 (_) rfl rfl (by kernel_rfl) (by kernel_rfl) (by kernel_rfl) (fun _ _ _ h => h) (fun w _ => by go_simp <;> rfl) hS ?_
      refine hd_take 6 (_) rfl rfl (by kernel_rfl) (by kernel_rfl) (by kernel_rfl) (fun _ _ _ h => h) (fun w _ => by go_simp <;> rfl) hS ?_
      simp only [List.getElem_toArray, List.getElem_cons_succ, List.getElem_cons_zero, Act.put, List.setIfInBounds_toArray, List.set_cons_zero, List.set_cons_succ]
      refine hd_take 2 (_) rfl rfl (by kernel_rfl) (by kernel_rfl) (by kernel_rfl) (fun _ _ _ h => h) (fun w _ => by go_simp <;> rfl) hS ?_
      refine hd_take 7 (_) rfl rfl (by kernel_rfl) (by kernel_rfl) (by kernel_rfl) (fun _ _ _ h => h) (fun w _ => by go_simp <;> rfl) hS ?_
      simp only [List.getElem_toArray, List.getElem_cons_succ, List.getElem_cons_zero, Act.put, List.setIfInBounds_toArray, List.set_cons_zero, List.set_cons_succ]
      refine hd_take 3 (_) rfl rfl (by kernel_rfl) (by kernel_rfl) (by kernel_rfl) (fun _ _ _ h => h) (fun w _ => by go_simp <;> rfl) hS ?_
      refine hd_take 8 (_) rfl rfl (by kernel_rfl) (by kernel_rfl) (by kernel_rfl) (fun _ _ _ h => h) (fun w _ => by go_simp <;> rfl) hS ?_
      simp only [List.getElem_toArray, List.getElem_cons_succ, List.getElem_cons_zero, Act.put, List.setIfInBounds_toArray, List.set_cons_zero, List.set_cons_succ]
      refine hd_take 4 (_) rfl rfl (by kernel_rfl) (by kernel_rfl) (by kernel_rfl) (fun _ _ _ h => h) (fun w _ => by go_simp <;> rfl) hS ?_
      refine hd_take 9 (_) rfl rfl (by kernel_rfl) (by kernel_rfl) (by kernel_rfl) (fun _ _ _ h => h) (fun w _ => by go_simp <;> rfl) hS ?_
      simp only [List.getElem_toArray, List.getElem_cons_succ, List.getElem_cons_zero, Act.put, List.setIfInBounds_toArray, List.set_cons_zero, List.set_cons_succ]
      refine hd_load 10 b (off + l * 16) (cellsB h0) _ _ rfl rfl rfl (by kernel_rfl) (by kernel_rfl) (by kernel_rfl) (fun _ _ _ h => h) rfl (fun w hw => hw) under_key rfl (key_info HH.out) hS ?_
      simp only [List.getElem_toArray, List.getElem_cons_succ, List.getElem_cons_zero, Act.put, List.setIfInBounds_toArray, List.set_cons_zero, List.set_cons_succ]
      have BA := alloc_bel W0.drew (.cells (cellsB zeroK).toArray 23)
      refine hd_sole 11 (by kernel_rfl) (op_run (.pointer (some ⟨W0.heap.size, 0, none⟩)) (W0.drew.alloc (.cells (cellsB zeroK).toArray 23)) rfl rfl (by rw [← HZ.out]; go_simp) ⟨HR.out _ (bel_on bw BA), ?_⟩)
      simp only [List.getElem_toArray, List.getElem_cons_succ, List.getElem_cons_zero, Act.put, List.setIfInBounds_toArray, List.set_cons_zero, List.set_cons_succ]
      have hS2 : (W0.drew.alloc (.cells (cellsB zeroK).toArray 23)).rangeAt b (off + l * 16) (cellsB h0) := HR.out _ (bel_on bw BA)
      refine hd_take 12 (.slice (some ⟨b, off, none⟩) l c) rfl rfl (by kernel_rfl) (by kernel_rfl) (by kernel_rfl) (fun _ _ _ h => h) (fun w _ => by go_simp) hS2 ?_
      simp only [List.getElem_toArray, List.getElem_cons_succ, List.getElem_cons_zero, Act.put, List.setIfInBounds_toArray, List.set_cons_zero, List.set_cons_succ]
      have N1 : Blk (W0.drew.alloc (.cells (cellsB zeroK).toArray 23)) W0.heap.size 23 (cellsB zeroK).toArray := Blk.new W0.drew _ _
      have hbb : W0.heap.size ≠ b := by have := HBW.out; omega
      have hS3 := range_setRow hS2 (g' := W0.heap.size) (by omega) (cellsB h0).toArray
      refine hd_store 13 W0.heap.size (cellsB h0).toArray _ _ _ rfl rfl rfl (by kernel_rfl) rfl rfl N1 (cellsB_size _ HH.out) (by rw [List.size_toArray, List.size_toArray, cellsB_length, cellsB_length, HH.out]; rfl) (all_oneCell_toArray (cells_one h0)) hS3 ?_
      refine wpAnyH_done (by kernel_rfl) (NoPanic.normal ?_) _
      have H1 := Lib.hid (N1.setRow (cellsB h0).toArray)
      have L1 := Lib.hid ((B0.out.drew.alloc (.cells (cellsB zeroK).toArray 23)).row_ne (g' := W0.heap.size) (cs' := (cellsB h0).toArray) (by omega))
      have R1 := Lib.hid ((B1.out.drew.alloc (.cells (cellsB zeroK).toArray 23)).row_ne (g' := W0.heap.size) (cs' := (cellsB h0).toArray) (by omega))
      have Q1 := Lib.hid ((B2.out.drew.alloc (.cells (cellsB zeroK).toArray 23)).row_ne (g' := W0.heap.size) (cs' := (cellsB h0).toArray) (by omega))
      have BW := below_setRow (bel_on bw BA) (g := W0.heap.size) (by omega) (cellsB h0).toArray
      have hz1 : W0.heap.size < ((W0.drew.alloc (.cells (cellsB zeroK).toArray 23)).setRow W0.heap.size (cellsB h0).toArray).heap.size := by simp [World.setRow]
      generalize (W0.drew.alloc (.cells (cellsB zeroK).toArray 23)).setRow W0.heap.size (cellsB h0).toArray = W1 at H1 L1 R1 Q1 BW hz1 ⊢
      have HZ0 := Lib.hid hz0
      clear hS hS2 hS3 N1 BA bw hbb hz0
      go_wp2_with (first
        | (refine wpList_load_row rfl 23 (.tmp 5) rfl w.heap.size rfl 23 (cellsB before).toArray (0, 0) _ L1.out under_key rfl (cellsB_size _ HK.out) ?_)
        | (go_at_call 84; refine (HC.out _ BW).mono ?_; rintro e w2 ⟨⟨X2, x2, rs2, rfl, ho2⟩, hb2⟩; have z2 : W1.heap.size ≤ w2.heap.size := hb2.size; have D2 := bel_on BW hb2; have H2 := H1.out.below' hb2; have R2 := R1.out.below' hb2; have Q2 := Q1.out.below' hb2; have PB := blk_b0 w2 (cellsB zeroK).toArray 23 (.cells (cellsB zeroK).toArray 23); have QB := blk_b1 w2 (.cells (cellsB zeroK).toArray 23) (cellsB zeroK).toArray 23; have QB1 := QB.row_ne (g' := w2.heap.size) (cs' := (cellsB p).toArray) (by omega); have hrA : (rowAt ((w2.alloc (.cells #[.int .u8 0, .int .u8 0, .int .u8 0, .int .u8 0, .int .u8 0, .int .u8 0, .int .u8 0, .int .u8 0, .int .u8 0, .int .u8 0, .int .u8 0, .int .u8 0, .int .u8 0, .int .u8 0, .int .u8 0, .int .u8 0] 23)).alloc (.cells #[.int .u8 0, .int .u8 0, .int .u8 0, .int .u8 0, .int .u8 0, .int .u8 0, .int .u8 0, .int .u8 0, .int .u8 0, .int .u8 0, .int .u8 0, .int .u8 0, .int .u8 0, .int .u8 0, .int .u8 0, .int .u8 0] 23)) w2.heap.size).size = 16 := (by rw [HZ.out, PB.row]; rfl); have hfA : rowFree ((w2.alloc (.cells #[.int .u8 0, .int .u8 0, .int .u8 0, .int .u8 0, .int .u8 0, .int .u8 0, .int .u8 0, .int .u8 0, .int .u8 0, .int .u8 0, .int .u8 0, .int .u8 0, .int .u8 0, .int .u8 0, .int .u8 0, .int .u8 0] 23)).alloc (.cells #[.int .u8 0, .int .u8 0, .int .u8 0, .int .u8 0, .int .u8 0, .int .u8 0, .int .u8 0, .int .u8 0, .int .u8 0, .int .u8 0, .int .u8 0, .int .u8 0, .int .u8 0, .int .u8 0, .int .u8 0, .int .u8 0] 23)) w2.heap.size = true := (by rw [HZ.out]; exact PB.free); have hrB : (rowAt (((w2.alloc (.cells #[.int .u8 0, .int .u8 0, .int .u8 0, .int .u8 0, .int .u8 0, .int .u8 0, .int .u8 0, .int .u8 0, .int .u8 0, .int .u8 0, .int .u8 0, .int .u8 0, .int .u8 0, .int .u8 0, .int .u8 0, .int .u8 0] 23)).alloc (.cells #[.int .u8 0, .int .u8 0, .int .u8 0, .int .u8 0, .int .u8 0, .int .u8 0, .int .u8 0, .int .u8 0, .int .u8 0, .int .u8 0, .int .u8 0, .int .u8 0, .int .u8 0, .int .u8 0, .int .u8 0, .int .u8 0] 23)).setRow w2.heap.size (cellsB p).toArray) (w2.heap.size + 1)).size = 16 := (by rw [HZ.out, QB1.row]; rfl); have hfB : rowFree (((w2.alloc (.cells #[.int .u8 0, .int .u8 0, .int .u8 0, .int .u8 0, .int .u8 0, .int .u8 0, .int .u8 0, .int .u8 0, .int .u8 0, .int .u8 0, .int .u8 0, .int .u8 0, .int .u8 0, .int .u8 0, .int .u8 0, .int .u8 0] 23)).alloc (.cells #[.int .u8 0, .int .u8 0, .int .u8 0, .int .u8 0, .int .u8 0, .int .u8 0, .int .u8 0, .int .u8 0, .int .u8 0, .int .u8 0, .int .u8 0, .int .u8 0, .int .u8 0, .int .u8 0, .int .u8 0, .int .u8 0] 23)).setRow w2.heap.size (cellsB p).toArray) (w2.heap.size + 1) = true := (by rw [HZ.out]; exact QB1.free); generalize hq2 : rs2.length = k2; have HQ2 := Lib.hid hq2; have HH2 := Lib.hid H2; have HR2 := Lib.hid R2; have HQ2r := Lib.hid Q2; have HPB := Lib.hid PB; have HQB := Lib.hid QB1; have HO2 := Lib.hid ho2; have HLT := Lib.hid (show W0.heap.size < w2.heap.size from by omega); clear hq2 H2 R2 Q2 PB QB QB1 ho2 hb2))
      rw [HZ.out]
      have E2 := alloc2_bel w2 (.cells (cellsB zeroK).toArray 23) (.cells (cellsB zeroK).toArray 23)
      have P3 := (HPB.out.setRow (cellsB p).toArray).row_ne (g' := w2.heap.size + 1) (cs' := (cellsB q).toArray) (by omega)
      have Q3 := HQB.out.setRow (cellsB q).toArray
      have H3 := ((HH2.out.below' E2).row_ne (g' := w2.heap.size) (cs' := (cellsB p).toArray) (by have := HLT.out; have := HZ0.out; omega)).row_ne (g' := w2.heap.size + 1) (cs' := (cellsB q).toArray) (by have := HLT.out; have := HZ0.out; omega)
      have R3 := ((HR2.out.below' E2).row_ne (g' := w2.heap.size) (cs' := (cellsB p).toArray) (by have := HLT.out; have := HZ0.out; omega)).row_ne (g' := w2.heap.size + 1) (cs' := (cellsB q).toArray) (by have := HLT.out; have := HZ0.out; omega)
      have S3 := ((HQ2r.out.below' E2).row_ne (g' := w2.heap.size) (cs' := (cellsB p).toArray) (by have := HLT.out; have := HZ0.out; omega)).row_ne (g' := w2.heap.size + 1) (cs' := (cellsB q).toArray) (by have := HLT.out; have := HZ0.out; omega)
      have T3 := ((HO2.out.below E2).row HPB.out (cellsB p).toArray).row HQB.out (cellsB q).toArray
      have D3 := below_setRow (below_setRow (bel_on D2 E2) (g := w2.heap.size) (by have := HLT.out; have := HZ0.out; omega) (cellsB p).toArray) (g := w2.heap.size + 1) (by have := HLT.out; have := HZ0.out; omega) (cellsB q).toArray
      have z3 : W1.heap.size ≤ ((((w2.alloc (.cells (cellsB zeroK).toArray 23)).alloc (.cells (cellsB zeroK).toArray 23)).setRow w2.heap.size (cellsB p).toArray).setRow (w2.heap.size + 1) (cellsB q).toArray).heap.size := (by simp [World.setRow]; omega)
      generalize ((((w2.alloc (.cells (cellsB zeroK).toArray 23)).alloc (.cells (cellsB zeroK).toArray 23)).setRow w2.heap.size (cellsB p).toArray).setRow (w2.heap.size + 1) (cellsB q).toArray) = W3 at P3 Q3 H3 R3 S3 T3 D3 z3 ⊢
      have P3 := Lib.hid P3
      have Q3 := Lib.hid Q3
      have H3 := Lib.hid H3
      have R3 := Lib.hid R3
      have S3 := Lib.hid S3
      have T3 := Lib.hid T3
      clear hrA hfA hrB hfB E2 HPB HQB HH2 HR2 HQ2r HO2
      refine wp_region_noPanic ?_
      have hh := H3.out.drew
      have hpp := P3.out.drew
      have hqq := Q3.out.drew
      refine wp_region_held_drew (S := fun w' => w'.rangeAt W0.heap.size 0 (cellsB h0) ∧ w'.rangeAt w2.heap.size 0 (cellsB p) ∧ w'.rangeAt (w2.heap.size + 1) 0 (cellsB q)) (by kernel_rfl) ⟨hh.range, hpp.range, hqq.range⟩ (fun hS => ?_)
      refine hd_load 0 W0.heap.size 0 (cellsB h0) _ _ rfl rfl rfl (by kernel_rfl) (by kernel_rfl) (by kernel_rfl) (fun _ _ _ h => h) rfl (fun w hw => hw.1) under_key rfl (key_info HH.out) hS ?_
      refine hd_load 1 w2.heap.size 0 (cellsB p) _ _ rfl rfl rfl (by kernel_rfl) (by kernel_rfl) (by kernel_rfl) (fun _ _ _ h => h) rfl (fun w hw => hw.2.1) under_key rfl (key_info HPL.out) hS ?_
      refine hd_load 3 W0.heap.size 0 (cellsB h0) _ _ rfl rfl rfl (by kernel_rfl) (by kernel_rfl) (by kernel_rfl) (fun _ _ _ h => h) rfl (fun w hw => hw.1) under_key rfl (key_info HH.out) hS ?_
      refine hd_load 4 (w2.heap.size + 1) 0 (cellsB q) _ _ rfl rfl rfl (by kernel_rfl) (by kernel_rfl) (by kernel_rfl) (fun _ _ _ h => h) rfl (fun w hw => hw.2.2) under_key rfl (key_info HQL.out) hS ?_
      simp only [List.getElem_toArray, List.getElem_cons_succ, List.getElem_cons_zero, Act.put, List.setIfInBounds_toArray, List.set_cons_zero, List.set_cons_succ]
      refine hd_calls 2 128 #[.agg (cellsB h0).toArray, .agg (cellsB p).toArray] rfl rfl (by kernel_rfl) (by go_simp) ((HNT1.out _).mono ?_)
      rintro e w4 ⟨⟨A4, c4, rfl, ho4⟩, hb4⟩
      have hS4 := And.intro (range_below hS.1 hb4) (And.intro (range_below hS.2.1 hb4) (range_below hS.2.2 hb4))
      refine ⟨_, rfl, hS4, ?_⟩
      simp only [List.getElem_toArray, List.getElem_cons_succ, List.getElem_cons_zero, Act.put, List.setIfInBounds_toArray, List.set_cons_zero, List.set_cons_succ]
      refine hd_calls 5 128 #[.agg (cellsB h0).toArray, .agg (cellsB q).toArray] rfl rfl (by kernel_rfl) (by go_simp) ((HNT2.out _).mono ?_)
      rintro e w5 ⟨⟨A5, c5, rfl, ho5⟩, hb5⟩
      have hS5 := And.intro (range_below hS4.1 hb5) (And.intro (range_below hS4.2.1 hb5) (range_below hS4.2.2 hb5))
      refine ⟨_, rfl, hS5, ?_⟩
      simp only [List.getElem_toArray, List.getElem_cons_succ, List.getElem_cons_zero, Act.put, List.setIfInBounds_toArray, List.set_cons_zero, List.set_cons_succ]
      refine hd_take 6 (_) rfl rfl (by kernel_rfl) (by kernel_rfl) (by kernel_rfl) (fun _ _ _ h => h) (fun w _ => by go_simp <;> rfl) hS5 ?_
      refine hd_take 7 (_) rfl rfl (by kernel_rfl) (by kernel_rfl) (by kernel_rfl) (fun _ _ _ h => h) (fun w _ => by go_simp <;> rfl) hS5 ?_
      refine wpAnyH_done (by kernel_rfl) (NoPanic.normal ?_) _
      simp only [List.getElem_toArray, List.getElem_cons_succ, List.getElem_cons_zero, Act.put, List.setIfInBounds_toArray, List.set_cons_zero, List.set_cons_succ]
      have b45 : Below W3.heap.size W3 w5 := bel_on (bel_on (Below.refl _ _).drew hb4) hb5
      have R5 := Lib.hid (R3.out.below' b45)
      have S5 := Lib.hid (S3.out.below' b45)
      have T5 := Lib.hid (T3.out.below b45)
      have D5 := bel_on D3 b45
      have z45 : W3.heap.size ≤ w4.heap.size := hb4.size
      have O4 := Lib.hid ((ho4.below hb5).le_ (B' := W1.heap.size) z3)
      have O5 := Lib.hid (ho5.le_ (B' := W1.heap.size) (Nat.le_trans z3 z45))
      have z5 : W1.heap.size ≤ w5.heap.size := Nat.le_trans z3 b45.size
      clear hS hS4 hS5 hh hpp hqq ho4 ho5 hb4 hb5
      go_wp2_with (first
        | (go_at_call 125; (with_reducible refine (HD1.out A4 c4 _ (O4.out.br (by rw [HNL1.out]; omega))).mono ?_); rintro e w6 ⟨rfl, hb6⟩; have O56 := Lib.hid (O5.out.below hb6); have O46 := Lib.hid (O4.out.below hb6); have b6 := bel_on b45 hb6; have z6 := Nat.le_trans z5 hb6.size; clear hb6)
        | (go_at_call 125; (with_reducible refine (HD2.out A5 c5 _ (O56.out.br (by rw [HNL2.out]; omega))).mono ?_); rintro e w7 ⟨rfl, hb7⟩; have b7 := bel_on (bel_on b6 hb7) (alloc_bel w7 (.cells #[.slice A4 33 c4, .slice A5 33 c5] 24)); have O47 := Lib.hid ((O46.out.below hb7).below (alloc_bel w7 (.cells #[.slice A4 33 c4, .slice A5 33 c5] 24))); have O57 := Lib.hid ((O56.out.below hb7).below (alloc_bel w7 (.cells #[.slice A4 33 c4, .slice A5 33 c5] 24))); have R7 := Lib.hid (R3.out.below' b7); have S7 := Lib.hid (S3.out.below' b7); have T7 := Lib.hid (T3.out.below b7); have D7 := bel_on D3 b7; have z7 : W1.heap.size ≤ (w7.alloc (.cells #[.slice A4 33 c4, .slice A5 33 c5] 24)).heap.size := Nat.le_trans z3 b7.size; have SR := Lib.hid (src_two w7 (.slice A4 33 c4) (.slice A5 33 c5) 24); clear hb7)
        | (at_builtin; refine wpList_append_rows _ rfl (.tmp 96) (.tmp 99) rfl W1.heap.size X2 k2 x2 rs2 HQ2.out rfl T7.out.2.1 (some ⟨w7.heap.size, 0, none⟩) 2 2 [⟨A4, c4, t1⟩, ⟨A5, c5, t2⟩] rfl rfl (by simp only [List.map_cons, List.map_nil, BRow.v, HNL1.out, HNL2.out]; exact SR.out) (by have := T7.out.len; rw [HQ2.out] at this; have := HXN.out; omega) z7 ?_; intro A8 c8 w8 ro8 hb8 hg8; rw [← HQ2.out] at hg8; have T8 := Lib.hid (T7.out.two O47.out O57.out ro8 hg8); have R8 := R7.out.grown T7.out.2.1 (by decide) hg8; have S8 := S7.out.grown T7.out.2.1 (by decide) hg8; have D8 := Lib.hid (D7.trans (hb8.mono BW.size)); have S9 := S8.row_ne (g' := w.heap.size + 1) (cs' := (cellsB d1).toArray) (by omega); have hr8 : (rowAt w8 (w.heap.size + 1)).size = 16 := (by rw [R8.row]; rfl); have hf8 := R8.free; have hr9 : (rowAt (w8.setRow (w.heap.size + 1) (cellsB d1).toArray) (w.heap.size + 1 + 1)).size = 16 := (by rw [S9.row]; rfl); have hf9 := S9.free; have HR8 := Lib.hid R8; have HS9 := Lib.hid S9; clear R8 S8 S9 ro8 hg8 hb8))
      have F1 := Lib.hid ((HR8.out.setRow (cellsB d1).toArray).row_ne (g' := w.heap.size + 1 + 1) (cs' := (cellsB d2).toArray) (by omega))
      have F2 := Lib.hid (HS9.out.setRow (cellsB d2).toArray)
      have FT := Lib.hid ((T8.out.row HR8.out (cellsB d1).toArray).row HS9.out (cellsB d2).toArray)
      have FB := Lib.hid (below_setRow (below_setRow D8.out (g := w.heap.size + 1) (by omega) (cellsB d1).toArray) (g := w.heap.size + 1 + 1) (by omega) (cellsB d2).toArray)
      refine bodyPost_ret (v := .tuple #[.agg (cellsB d1).toArray, .agg (cellsB d2).toArray, .slice A8 (k2 + 2) c8]) ?_ rfl ⟨⟨_, _, rs2 ++ [⟨A4, c4, t1⟩, ⟨A5, c5, t2⟩], by rw [List.length_append, HQ2.out]; rfl, FT.out.le_ BW.size⟩, FB.out⟩
      rw [results_cell2t Try.results84]
      simp [asAddr, Result.andThen, run_loadVar_row _ (w.heap.size + 1) _ _ _ (0, 0) _ F1.out under_key rfl (cellsB_size _ HDL1.out), run_loadVar_row _ (w.heap.size + 1 + 1) _ _ _ (0, 0) _ F2.out under_key rfl (cellsB_size _ HDL2.out)]
end Go.Proofs.Ytinpiodfpnbllaa

/- What a proof gives: the program's Verify and PathTexts. -/
namespace Go.Proofs.Ytinpiodfpnbllaa
open Go.RowKit
set_option linter.unusedVariables false
set_option linter.unusedSimpArgs false
attribute [local go_sem] run_storeCells_key run_storeCells_new equalIn_keys

/-- A key and texts that are returned. -/
def GvEnd (r : List UInt8) (ts : List (List UInt8)) (e : Ending) (w' : World) : Prop := ∃ A c rs, e = .returned (.tuple #[.agg (cellsB r).toArray, .slice A rs.length c]) ∧ rs.map BRow.l = ts ∧ RR w' A c rs
def verS (root leaf : List UInt8) (a b : Int) (P : List (List UInt8)) : Bool × Int := if fitsB a b P.length = true then ((climbS leaf a.toNat b.toNat P).1 == root, 0) else (false, 8)
def ptS (leaf : List UInt8) (a b : Int) (P : List (List UInt8)) : List (List UInt8) × Int := if fitsB a b P.length = true then ((climbS leaf a.toNat b.toNat P).2, 0) else ([], 8)

set_option maxHeartbeats 2000000 in
set_option maxRecDepth 100000 in
theorem given_any (leaf : List UInt8) (n i : Nat) (P : List (List UInt8)) (A : Option Addr) (c : Nat) (w : World) {m : Nat} (hm : P.length = m) (hl : leaf.length = 16) (h1 : 1 ≤ n) (h2 : n ≤ 128) (hi : i < n) (hp : P.length = stepsS n i) (h : KR w A c P) :
    Calls Try.prog 79 #[.agg (cellsB leaf).toArray, .agg #[.int .i64 (n : Int), .int .i64 (i : Int), .slice A m c]] w fun e w' => GvEnd (climbS leaf n i P).1 (climbS leaf n i P).2 e w' ∧ Below w.heap.size w w' := by
  have HZ := Lib.hid zero16
  have HK := Lib.hid hl
  have b0 := alloc3_bel w (.cells (cellsB leaf).toArray 23) (.cells #[.int .i64 (n : Int), .int .i64 (i : Int), .slice A m c] 52) (.cells (cellsB zeroK).toArray 23)
  have L0 := Lib.hid (blk_a0 w (cellsB leaf).toArray 23 (.cells #[.int .i64 (n : Int), .int .i64 (i : Int), .slice A m c] 52) (.cells (cellsB zeroK).toArray 23))
  have R0 := Lib.hid (blk_a2 w (.cells (cellsB leaf).toArray 23) (.cells #[.int .i64 (n : Int), .int .i64 (i : Int), .slice A m c] 52) (cellsB zeroK).toArray 23)
  obtain ⟨W3, hW3⟩ : ∃ W, W = ((w.alloc (.cells (cellsB leaf).toArray 23)).alloc (.cells #[.int .i64 (n : Int), .int .i64 (i : Int), .slice A m c] 52)).alloc (.cells (cellsB zeroK).toArray 23) := ⟨_, rfl⟩
  have hsz : W3.heap.size = w.heap.size + 1 + 1 + 1 := by rw [hW3]; simp
  have ht0 := TX.new W3
  have b3 := alloc_bel W3 (.cells #[.slice none 0 0] 119)
  have hle := climbS_le leaf n i P h1
  have hrl := climbS_length leaf n i P
  have HC := climb_any W3 W3.heap.size leaf hl n i P A c [] (W3.alloc (.cells #[.slice none 0 0] 119)) h1 (by omega) hi hp (by rw [hW3]; exact h.below b0) b3 ht0 (by simp; omega)
  rw [hm, List.nil_append] at HC
  have HSZ := Lib.hid hsz
  have HC' := Lib.hid HC
  have HW3 := Lib.hid hW3
  rw [← hW3] at b0 L0 R0
  generalize climbS leaf n i P = r at HC' hle hrl HC ⊢
  obtain ⟨q, x⟩ := r
  dsimp only at HC' hle hrl HC ⊢
  have HRL := Lib.hid hrl
  have hdc : (cellsB q).length = 16 := by rw [cellsB_length, hrl]
  have hall := all16 q
  have HLE : Hid (x.length ≤ 100000) := by unfold Hid; omega
  clear hm hl h1 h2 hi hp h hsz HC ht0 hW3 hle hrl
  go_enter Try.func79, Try.ntmps79
  go_wp2_with (first
    | (refine wpList_load_row rfl 23 (.tmp 2) rfl w.heap.size rfl 23 (cellsB leaf).toArray (0, 0) _ (by rw [HZ.out, ← HW3.out]; exact (L0.out.alloc _)) under_key rfl (cellsB_size _ HK.out) ?_)
    | (go_at_call 134; rw [HZ.out, ← HW3.out, ← HSZ.out]; refine HC'.out.mono ?_; rintro e w1 ⟨rfl, ht1, hk1, hb1⟩; obtain ⟨A1, c1, rs, hc1, hrs, hrr⟩ := ht1.rr HLE.out; have tlt := ht1.lt; have B1 := Lib.hid (b3.trans hb1); have HTX := Lib.hid ht1; generalize hq : rs.length = k1 at hc1; have HQ := Lib.hid hq; have HC1 := Lib.hid hc1; clear hc1 hq hrs hrr ht1 hk1 hb1))
  have BA := alloc_bel w1 (.cells (cellsB q).toArray 23)
  have Q0 := Blk.new w1 23 (cellsB q).toArray
  have R1 : Blk (w1.alloc (.cells (cellsB q).toArray 23)) (w.heap.size + 1 + 1) 23 (cellsB zeroK).toArray := (R0.out.below' B1.out).alloc _
  have C1 : (w1.alloc (.cells (cellsB q).toArray 23)).cell? ⟨W3.heap.size, 0, none⟩ = some (.slice A1 k1 c1) := (BA.cell (p := ⟨W3.heap.size, 0, none⟩) tlt).trans HC1.out
  have RA := HTX.out.below BA
  have hne : w1.heap.size ≠ w.heap.size + 1 + 1 := by have := HSZ.out; omega
  have hne2 : W3.heap.size ≠ w.heap.size + 1 + 1 := by have := HSZ.out; omega
  rw [HSZ.out] at C1 hne2
  have BW : Below w.heap.size w (w1.alloc (.cells (cellsB q).toArray 23)) := bel_on (bel_on b0 B1.out) BA
  obtain ⟨W4, hW4⟩ : ∃ W, W = w1.alloc (.cells (cellsB q).toArray 23) := ⟨_, rfl⟩
  rw [← hW4] at Q0 R1 C1 RA BW ⊢
  clear hW4 BA HC1
  refine wp_region_noPanic ?_
  refine wp_region_held_drew (S := fun w' => w'.rangeAt w1.heap.size 0 (cellsB q) ∧ w'.cell? ⟨w.heap.size + 1 + 1 + 1, 0, none⟩ = some (.slice A1 k1 c1)) (by kernel_rfl) ⟨Q0.drew.range, C1⟩ (fun hS => ?_)
  refine hd_load 0 w1.heap.size 0 (cellsB q) _ _ rfl rfl rfl (by kernel_rfl) (by kernel_rfl) (by kernel_rfl) (fun _ _ _ h => h) rfl (fun w hw => hw.1) under_key rfl (key_info HRL.out) hS ?_
  refine hd_take 1 (.slice A1 k1 c1) rfl rfl (by kernel_rfl) (by kernel_rfl) (by kernel_rfl) (fun _ _ _ h => h) (fun w hw => by have hx := hw.2; simp [go_sem, HSZ.out, hx]) hS ?_
  simp only [List.getElem_toArray, List.getElem_cons_succ, List.getElem_cons_zero, Act.put, List.setIfInBounds_toArray, List.set_cons_zero, List.set_cons_succ]
  have hS7 := And.intro (range_setRow hS.1 (g' := w.heap.size + 1 + 1) hne (cellsB q).toArray) ((World.cell?_of_block (a := ⟨w.heap.size + 1 + 1 + 1, 0, none⟩) (setRow_other W4.drew (w.heap.size + 1 + 1) (w.heap.size + 1 + 1 + 1) (cellsB q).toArray (by omega))).trans hS.2)
  refine hd_store 2 (w.heap.size + 1 + 1) (cellsB q).toArray _ _ _ rfl rfl rfl (by kernel_rfl) rfl rfl R1.drew (cellsB_size _ HRL.out) (by rw [List.size_toArray, List.size_toArray, cellsB_length, cellsB_length, HRL.out]; rfl) (all_oneCell_toArray (cells_one q)) hS7 ?_
  refine hd_take 3 (_) rfl rfl (by kernel_rfl) (by kernel_rfl) (by kernel_rfl) (fun _ _ _ h => h) (fun w _ => by go_simp <;> rfl) hS7 ?_
  simp only [List.getElem_toArray, List.getElem_cons_succ, List.getElem_cons_zero, Act.put, List.setIfInBounds_toArray, List.set_cons_zero, List.set_cons_succ]
  refine wpAnyH_done (by kernel_rfl) (NoPanic.normal ?_) _
  have HRF := Lib.hid (R1.drew.setRow (cellsB q).toArray)
  have HBF := Lib.hid (below_setRow BW.drew (g := w.heap.size + 1 + 1) (by omega) (cellsB q).toArray)
  obtain ⟨A5, c5, rs5, hc5, hrs5, hrr5⟩ := ((RA.below (Below.refl _ _).drew).row R1.drew (cellsB q).toArray).rr HLE.out
  rw [HSZ.out, hS7.2] at hc5
  injection hc5 with hc5
  injection hc5 with e1 e2 e3
  subst e1 e3
  have HQ5 := Lib.hid e2
  have HRS5 := Lib.hid hrs5
  have HRR5 := Lib.hid hrr5
  clear hS hS7 Q0 R1 C1 RA BW e2 hrs5 hrr5
  go_wp2_with fail
  refine bodyPost_ret (v := .tuple #[.agg (cellsB q).toArray, .slice A1 k1 c1]) ?_ rfl ⟨⟨A1, c1, rs5, by rw [HQ5.out], HRS5.out, HRR5.out⟩, HBF.out⟩
  rw [results_cell_tmp Try.results79]
  simp [asAddr, Result.andThen, run_loadVar_row _ (w.heap.size + 1 + 1) _ _ _ (0, 0) _ HRF.out under_key rfl (cellsB_size _ HRL.out)]

set_option maxHeartbeats 2000000 in
set_option maxRecDepth 100000 in
theorem gives_any (root leaf : List UInt8) (n i : Nat) (P : List (List UInt8)) (A : Option Addr) (c : Nat) (w : World) {m : Nat} (hm : P.length = m) (hr : root.length = 16) (hl : leaf.length = 16) (h1 : 1 ≤ n) (h2 : n ≤ 128) (hi : i < n) (hp : P.length = stepsS n i) (h : KR w A c P) :
    Calls Try.prog 76 #[.agg (cellsB root).toArray, .agg (cellsB leaf).toArray, .agg #[.int .i64 (n : Int), .int .i64 (i : Int), .slice A m c]] w fun e w' => e = .returned (.bool ((climbS leaf n i P).1 == root)) ∧ Below w.heap.size w w' := by
  have HZ := Lib.hid zero16
  have HK := Lib.hid hl
  have HR := Lib.hid hr
  have b0 := alloc3_bel w (.cells (cellsB root).toArray 23) (.cells (cellsB leaf).toArray 23) (.cells #[.int .i64 (n : Int), .int .i64 (i : Int), .slice A m c] 52)
  have R0 := Lib.hid (blk_a0 w (cellsB root).toArray 23 (.cells (cellsB leaf).toArray 23) (.cells #[.int .i64 (n : Int), .int .i64 (i : Int), .slice A m c] 52))
  have L0 := Lib.hid (blk_a1 w (.cells (cellsB root).toArray 23) (cellsB leaf).toArray 23 (.cells #[.int .i64 (n : Int), .int .i64 (i : Int), .slice A m c] 52))
  have HG : Hid (∀ W, Below w.heap.size w W → Calls Try.prog 79 #[.agg (cellsB leaf).toArray, .agg #[.int .i64 (n : Int), .int .i64 (i : Int), .slice A m c]] W fun e w' => GvEnd (climbS leaf n i P).1 (climbS leaf n i P).2 e w' ∧ Below W.heap.size W w') := fun W hW => given_any leaf n i P A c W hm hl h1 h2 hi hp (h.below hW)
  have hrl := climbS_length leaf n i P
  generalize climbS leaf n i P = r at HG hrl ⊢
  obtain ⟨q, x⟩ := r
  unfold GvEnd at HG
  dsimp only at HG hrl ⊢
  have HRL := Lib.hid hrl
  have hdc : (cellsB q).length = 16 := by rw [cellsB_length, hrl]
  have hall := all16 q
  clear hm hr hl h1 h2 hi hp h hrl
  go_enter Try.func76, Try.ntmps76
  go_wp2_with (first
    | (refine wpList_load_row rfl 23 (.tmp 4) rfl (w.heap.size + 1) rfl 23 (cellsB leaf).toArray (0, 0) _ L0.out under_key rfl (cellsB_size _ HK.out) ?_)
    | (go_at_call 79; refine (HG.out _ b0).mono ?_; rintro e w1 ⟨⟨A1, c1, rs, rfl, _, _⟩, hb1⟩; have B1 := Lib.hid (bel_on b0 hb1); have R1 := Lib.hid ((R0.out.below' hb1).alloc (.cells (cellsB q).toArray 23)); have Q1 := Lib.hid (Blk.new w1 23 (cellsB q).toArray); clear hb1)
    | (refine wpList_load_row rfl 23 (.tmp 7) rfl w1.heap.size rfl 23 (cellsB q).toArray (0, 0) _ Q1.out under_key rfl (cellsB_size _ HRL.out) ?_)
    | (refine wpList_load_row rfl 23 (.tmp 3) rfl w.heap.size rfl 23 (cellsB root).toArray (0, 0) _ R1.out under_key rfl (cellsB_size _ HR.out) ?_))
  go_ret
  exact ⟨rfl, bel_on B1.out (alloc_bel w1 _)⟩

set_option maxHeartbeats 2000000 in
set_option maxRecDepth 100000 in
theorem Verify_any (root leaf : List UInt8) (a b : Int) (P : List (List UInt8)) (A : Option Addr) (c : Nat) (w : World) {m : Nat} (hm : P.length = m) (hr : root.length = 16) (hl : leaf.length = 16) (h : KR w A c P) :
    Calls Try.prog 26 #[.agg (cellsB root).toArray, .agg (cellsB leaf).toArray, .agg #[.int .i64 a, .int .i64 b, .slice A m c]] w fun e w' => e = .returned (.tuple #[.bool (verS root leaf a b P).1, .int .i64 (verS root leaf a b P).2]) ∧ Below w.heap.size w w' := by
  have HK := Lib.hid hl
  have HR := Lib.hid hr
  have b0 := alloc3_bel w (.cells (cellsB root).toArray 23) (.cells (cellsB leaf).toArray 23) (.cells #[.int .i64 a, .int .i64 b, .slice A m c] 52)
  have R0 := Lib.hid (blk_a0 w (cellsB root).toArray 23 (.cells (cellsB leaf).toArray 23) (.cells #[.int .i64 a, .int .i64 b, .slice A m c] 52))
  have L0 := Lib.hid (blk_a1 w (.cells (cellsB root).toArray 23) (cellsB leaf).toArray 23 (.cells #[.int .i64 a, .int .i64 b, .slice A m c] 52))
  have P0 := Lib.hid (blk_a2 w (.cells (cellsB root).toArray 23) (.cells (cellsB leaf).toArray 23) #[.int .i64 a, .int .i64 b, .slice A m c] 52)
  have hml := h.len
  have HF : Hid (∀ W, Calls Try.prog 75 #[.agg #[.int .i64 a, .int .i64 b, .slice A m c]] W fun e w' => e = .returned (.bool (fitsB a b m)) ∧ Below W.heap.size W w') := fun W => fits_any a b A m c W (by omega)
  cases hf : fitsB a b m with
  | false =>
    have HS : Hid (verS root leaf a b P = (false, 8)) := by unfold Hid verS; rw [hm, hf]; rfl
    rw [hf] at HF
    clear hf hm hr hl h hml
    go_enter Try.func26, Try.ntmps26
    go_wp2_with (go_at_call 75; refine (HF.out _).mono ?_; rintro e w1 ⟨rfl, hb1⟩; have B1 := Lib.hid (bel_on b0 hb1); clear hb1)
    go_ret2
    rw [HS.out]
    exact ⟨rfl, B1.out⟩
  | true =>
    have HS : Hid (verS root leaf a b P = ((climbS leaf a.toNat b.toNat P).1 == root, 0)) := by unfold Hid verS; rw [hm, hf]; rfl
    rw [hf] at HF
    obtain ⟨⟨g1, g2, g3, g4⟩, g5⟩ := fitsB_iff.1 hf
    have HG : Hid (∀ W, Below w.heap.size w W → Calls Try.prog 76 #[.agg (cellsB root).toArray, .agg (cellsB leaf).toArray, .agg #[.int .i64 a, .int .i64 b, .slice A m c]] W fun e w' => e = .returned (.bool ((climbS leaf a.toNat b.toNat P).1 == root)) ∧ Below W.heap.size W w') := fun W hW => by
      have := gives_any root leaf a.toNat b.toNat P A c W hm hr hl (by omega) (by omega) (by omega) (by rw [hm]; exact g5) (h.below hW)
      rwa [Int.toNat_of_nonneg (by omega), Int.toNat_of_nonneg (by omega)] at this
    generalize ((climbS leaf a.toNat b.toNat P).1 == root) = v at HS HG
    clear hf hm hr hl h hml g1 g2 g3 g4 g5
    go_enter Try.func26, Try.ntmps26
    go_wp2_with (first
      | (go_at_call 75; refine (HF.out _).mono ?_; rintro e w1 ⟨rfl, hb1⟩; have B1 := bel_on b0 hb1; have R1 := Lib.hid (R0.out.below' hb1); have L1 := Lib.hid (L0.out.below' hb1); have P1 := P0.out.below' hb1; have p0 : w1.cell? ⟨w.heap.size + 1 + 1, 0, none⟩ = some (.int .i64 a) := P1.cell 0; have p1 : w1.cell? ⟨w.heap.size + 1 + 1, 1, none⟩ = some (.int .i64 b) := P1.cell 1; have p2 : w1.cell? ⟨w.heap.size + 1 + 1, 2, none⟩ = some (.slice A m c) := P1.cell 2; clear P1 hb1)
      | (refine wpList_load_row rfl 23 (.tmp 3) rfl w.heap.size rfl 23 (cellsB root).toArray (0, 0) _ R1.out under_key rfl (cellsB_size _ HR.out) ?_)
      | (refine wpList_load_row rfl 23 (.tmp 4) rfl (w.heap.size + 1) rfl 23 (cellsB leaf).toArray (0, 0) _ L1.out under_key rfl (cellsB_size _ HK.out) ?_)
      | (go_at_call 76; refine (HG.out _ B1).mono ?_; rintro e w2 ⟨rfl, hb2⟩; have B2 := Lib.hid (bel_on B1 hb2); clear hb2))
    go_ret2
    rw [HS.out]
    exact ⟨rfl, B2.out⟩

set_option maxHeartbeats 2000000 in
set_option maxRecDepth 100000 in
theorem PathTexts_any (leaf : List UInt8) (a b : Int) (P : List (List UInt8)) (A : Option Addr) (c : Nat) (w : World) {m : Nat} (hm : P.length = m) (hl : leaf.length = 16) (h : KR w A c P) :
    Calls Try.prog 28 #[.agg (cellsB leaf).toArray, .agg #[.int .i64 a, .int .i64 b, .slice A m c]] w fun e w' => TxEnd (ptS leaf a b P).1 (ptS leaf a b P).2 e w' ∧ Below w.heap.size w w' := by
  have HK := Lib.hid hl
  have b0 := alloc2_bel w (.cells (cellsB leaf).toArray 23) (.cells #[.int .i64 a, .int .i64 b, .slice A m c] 52)
  have L0 := Lib.hid (blk_b0 w (cellsB leaf).toArray 23 (.cells #[.int .i64 a, .int .i64 b, .slice A m c] 52))
  have P0 := Lib.hid (blk_b1 w (.cells (cellsB leaf).toArray 23) #[.int .i64 a, .int .i64 b, .slice A m c] 52)
  have hml := h.len
  have HF : Hid (∀ W, Calls Try.prog 75 #[.agg #[.int .i64 a, .int .i64 b, .slice A m c]] W fun e w' => e = .returned (.bool (fitsB a b m)) ∧ Below W.heap.size W w') := fun W => fits_any a b A m c W (by omega)
  cases hf : fitsB a b m with
  | false =>
    have HS : Hid (ptS leaf a b P = ([], 8)) := by unfold Hid ptS; rw [hm, hf]; rfl
    rw [hf] at HF
    clear hf hm hl h hml
    go_enter Try.func28, Try.ntmps28
    go_wp2_with (go_at_call 75; refine (HF.out _).mono ?_; rintro e w1 ⟨rfl, hb1⟩; have B1 := Lib.hid (bel_on b0 hb1); clear hb1)
    go_ret2
    rw [HS.out]
    exact ⟨⟨none, 0, [], rfl, rfl, RR.nil _⟩, B1.out⟩
  | true =>
    have HS : Hid (ptS leaf a b P = ((climbS leaf a.toNat b.toNat P).2, 0)) := by unfold Hid ptS; rw [hm, hf]; rfl
    rw [hf] at HF
    obtain ⟨⟨g1, g2, g3, g4⟩, g5⟩ := fitsB_iff.1 hf
    have HG : Hid (∀ W, Below w.heap.size w W → Calls Try.prog 79 #[.agg (cellsB leaf).toArray, .agg #[.int .i64 a, .int .i64 b, .slice A m c]] W fun e w' => GvEnd (climbS leaf a.toNat b.toNat P).1 (climbS leaf a.toNat b.toNat P).2 e w' ∧ Below W.heap.size W w') := fun W hW => by
      have := given_any leaf a.toNat b.toNat P A c W hm hl (by omega) (by omega) (by omega) (by rw [hm]; exact g5) (h.below hW)
      rwa [Int.toNat_of_nonneg (by omega), Int.toNat_of_nonneg (by omega)] at this
    have hrl := climbS_length leaf a.toNat b.toNat P
    generalize climbS leaf a.toNat b.toNat P = r at HS HG hrl
    obtain ⟨q, x⟩ := r
    unfold GvEnd at HG
    dsimp only at HS HG hrl
    have hdc : (cellsB q).length = 16 := by rw [cellsB_length, hrl]
    have hall := all16 q
    clear hf hm hl h hml g1 g2 g3 g4 g5 hrl
    go_enter Try.func28, Try.ntmps28
    go_wp2_with (first
      | (go_at_call 75; refine (HF.out _).mono ?_; rintro e w1 ⟨rfl, hb1⟩; have B1 := bel_on b0 hb1; have L1 := Lib.hid (L0.out.below' hb1); have P1 := P0.out.below' hb1; have p0 : w1.cell? ⟨w.heap.size + 1, 0, none⟩ = some (.int .i64 a) := P1.cell 0; have p1 : w1.cell? ⟨w.heap.size + 1, 1, none⟩ = some (.int .i64 b) := P1.cell 1; have p2 : w1.cell? ⟨w.heap.size + 1, 2, none⟩ = some (.slice A m c) := P1.cell 2; clear P1 hb1)
      | (refine wpList_load_row rfl 23 (.tmp 2) rfl w.heap.size rfl 23 (cellsB leaf).toArray (0, 0) _ L1.out under_key rfl (cellsB_size _ HK.out) ?_)
      | (go_at_call 79; refine (HG.out _ B1).mono ?_; rintro e w2 ⟨⟨A2, c2, rs, rfl, hrs, hrr⟩, hb2⟩; have B2 := Lib.hid (bel_on B1 hb2); have HRS := Lib.hid hrs; have HRR := Lib.hid hrr; generalize hq : rs.length = k; have HQ := Lib.hid hq; clear hb2 hrs hrr hq))
    go_ret2
    rw [HS.out]
    exact ⟨⟨A2, c2, rs, by rw [HQ.out]; rfl, HRS.out, HRR.out.on (alloc_bel _ _)⟩, bel_on B2.out (alloc_bel _ _)⟩
end Go.Proofs.Ytinpiodfpnbllaa
