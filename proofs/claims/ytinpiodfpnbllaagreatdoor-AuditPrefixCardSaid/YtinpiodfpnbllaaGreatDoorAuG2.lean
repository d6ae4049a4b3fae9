/-
  Lemmas and contracts, joined.
-/
import Derived.Test.YtinpiodfpnbllaaGreatDoorAuG1
set_option linter.unusedSimpArgs false
set_option linter.unusedVariables false
set_option linter.unnecessarySimpa false
/- Growths: VerifyGrowth and GrowthTexts, the program's and the reference's. -/
namespace Go.Proofs.YtinpiodfpnbllaaGreatDoor
open Go.RowKit
set_option linter.unusedVariables false
set_option linter.unusedSimpArgs false
attribute [local go_sem] run_storeCells_key run_storeCells_new equalIn_keys

def vgS (before after : List UInt8) (a b : Int) (P : List (List UInt8)) : Bool × Int := if fitsGB a b P.length = true then ((growS before b.toNat a.toNat P).1 == before && (growS before b.toNat a.toNat P).2.1 == after, 0) else (false, 8)
def gtS (before : List UInt8) (a b : Int) (P : List (List UInt8)) : List (List UInt8) × Int := if fitsGB a b P.length = true then ((growS before b.toNat a.toNat P).2.2, 0) else ([], 8)
theorem growS_short {before : List UInt8} (hb : before.length = 16) : ∀ (n m : Nat) (path : List (List UInt8)), (∀ k ∈ path, k.length = 16) → ∀ t ∈ (growS before n m path).2.2, t.length ≤ 1000 := by
  intro n
  induction n using Nat.strongRecOn with
  | _ n ih =>
    intro m path hp t ht
    have hlast := lastK_short hp
    have hin : ∀ k ∈ initK path, k.length = 16 := fun k hk => hp k (initK_mem hk)
    rw [growS] at ht
    split at ht
    · cases ht
    · rename_i h
      have s1 := splitS_lt (n := n) (by omega)
      have s2 := splitS_pos n
      dsimp only at ht
      split at ht
      · have hl := growS_length hb (splitS n) m (path := initK path) hin
        rcases List.mem_append.1 ht with ht | ht
        · exact ih (splitS n) s1 _ _ hin t ht
        · rw [List.mem_singleton.1 ht]
          simp only [nodeT, List.length_cons, List.length_append]; omega
      · have hl := growS_length hb (n - splitS n) (m - splitS n) (path := initK path) hin
        rcases List.mem_append.1 ht with ht | ht
        · exact ih (n - splitS n) (by omega) _ _ hin t ht
        · rcases List.mem_cons.1 ht with rfl | ht
          · simp only [nodeT, List.length_cons, List.length_append]; omega
          · rw [List.mem_singleton.1 ht]
            simp only [nodeT, List.length_cons, List.length_append]; omega

set_option maxHeartbeats 4000000 in
set_option maxRecDepth 100000 in
theorem VerifyGrowth_any (before after : List UInt8) (a b : Int) (P : List (List UInt8)) (A : Option Addr) (c : Nat) (w : World) {m : Nat} (hm : P.length = m) (hr : before.length = 16) (hl : after.length = 16) (h : KR w A c P) :
    Calls Tryz.prog 43 #[.agg (cellsB before).toArray, .agg (cellsB after).toArray, .agg #[.int .i64 a, .int .i64 b, .slice A m c]] w fun e w' => e = .returned (.tuple #[.bool (vgS before after a b P).1, .int .i64 (vgS before after a b P).2]) ∧ Below w.heap.size w w' := by
  have HK := Lib.hid hl
  have HR := Lib.hid hr
  have HZ := Lib.hid zero16
  have b0 := alloc3_bel w (.cells (cellsB before).toArray 24) (.cells (cellsB after).toArray 24) (.cells #[.int .i64 a, .int .i64 b, .slice A m c] 80)
  have R0 := Lib.hid (blk_a0 w (cellsB before).toArray 24 (.cells (cellsB after).toArray 24) (.cells #[.int .i64 a, .int .i64 b, .slice A m c] 80))
  have L0 := Lib.hid (blk_a1 w (.cells (cellsB before).toArray 24) (cellsB after).toArray 24 (.cells #[.int .i64 a, .int .i64 b, .slice A m c] 80))
  have P0 := Lib.hid (blk_a2 w (.cells (cellsB before).toArray 24) (.cells (cellsB after).toArray 24) #[.int .i64 a, .int .i64 b, .slice A m c] 80)
  have hml := h.len
  have HF : Hid (∀ W, Calls Tryz.prog 103 #[.agg #[.int .i64 a, .int .i64 b, .slice A m c]] W fun e w' => e = .returned (.bool (fitsGB a b m)) ∧ Below W.heap.size W w') := fun W => fitsGrowth_any a b A m c W (by omega)
  cases hf : fitsGB a b m with
  | false =>
    have HS : Hid (vgS before after a b P = (false, 8)) := by unfold Hid vgS; rw [hm, hf]; rfl
    rw [hf] at HF
    clear hf hm hr hl h hml
    go_enter Tryz.func43, Tryz.ntmps43
    go_wp2_with (go_at_call 103; refine (HF.out _).mono ?_; rintro e w1 ⟨rfl, hb1⟩; have B1 := Lib.hid (bel_on b0 hb1); clear hb1)
    go_ret2
    rw [HS.out]
    exact ⟨rfl, B1.out⟩
  | true =>
    have HS : Hid (vgS before after a b P = ((growS before b.toNat a.toNat P).1 == before && (growS before b.toNat a.toNat P).2.1 == after, 0)) := by unfold Hid vgS; rw [hm, hf]; rfl
    rw [hf] at HF
    obtain ⟨⟨g1, g2, g3⟩, g4⟩ := fitsGB_iff.1 hf
    have HG : Hid (∀ W, Below w.heap.size w W → Calls Tryz.prog 104 #[.pointer (some ⟨W.heap.size, 0, none⟩), .agg (cellsB before).toArray, .int .i64 b, .int .i64 a, .slice A m c] (W.alloc (.cells #[.slice none 0 0] 150)) (GrowEnd W W.heap.size [] (growS before b.toNat a.toNat P) (W.alloc (.cells #[.slice none 0 0] 150)))) := fun W hW => by
      have := grow_any W W.heap.size before hr b.toNat a.toNat true P A c [] (W.alloc (.cells #[.slice none 0 0] 150)) (by omega) (by omega) (by omega) (by rw [hm]; exact g4) (h.below hW) (alloc_bel _ _) (TX.new W) (by simp only [List.length_nil]; omega)
      rwa [hm, Int.toNat_of_nonneg (by omega), Int.toNat_of_nonneg (by omega)] at this
    have hpl := (growS_length hr b.toNat a.toNat (path := P) h.2).1
    have hql := (growS_length hr b.toNat a.toNat (path := P) h.2).2
    generalize growS before b.toNat a.toNat P = r at HS HG hpl hql
    obtain ⟨p, q, x⟩ := r
    unfold GrowEnd at HG
    dsimp only at HS HG hpl hql
    have HPL := Lib.hid hpl
    have HQL := Lib.hid hql
    have hpc : (cellsB p).length = 16 := by rw [cellsB_length, hpl]
    have hpa := all16 p
    have hqc : (cellsB q).length = 16 := by rw [cellsB_length, hql]
    have hqa := all16 q
    clear hf hm hr hl h hml g1 g2 g3 g4 hpl hql
    cases hpb : (p == before) with
    | false =>
      have HS2 : Hid (vgS before after a b P = (false, 0)) := by unfold Hid; rw [HS.out, hpb]; rfl
      clear HS
      go_enter Tryz.func43, Tryz.ntmps43
      go_wp2_with (first
        | (go_at_call 103; refine (HF.out _).mono ?_; rintro e w1 ⟨rfl, hb1⟩; have B1 := bel_on b0 hb1; have R1 := R0.out.below' hb1; have L1 := L0.out.below' hb1; have P1 := P0.out.below' hb1; have p0 : w1.cell? ⟨w.heap.size + 1 + 1, 0, none⟩ = some (.int .i64 a) := P1.cell 0; have p1 : w1.cell? ⟨w.heap.size + 1 + 1, 1, none⟩ = some (.int .i64 b) := P1.cell 1; have p2 : w1.cell? ⟨w.heap.size + 1 + 1, 2, none⟩ = some (.slice A m c) := P1.cell 2; have hpt : w.heap.size + 1 + 1 < w1.heap.size := P1.lt; have HR1 := Lib.hid R1; have HL1 := Lib.hid L1; clear P1 hb1 R1 L1)
        | (refine wpList_load_row rfl 24 (.tmp 3) rfl w.heap.size rfl 24 (cellsB before).toArray (0, 0) _ (HR1.out.alloc _) under_key rfl (cellsB_size _ HR.out) ?_)
        | (go_at_call 104; refine (HG.out w1 B1).mono ?_; rintro e w2 ⟨rfl, ht2, hk2, hb2⟩; have bb := (alloc_bel w1 (.cells #[.slice none 0 0] 150)).trans hb2; have R2 := HR1.out.below' bb; have L2 := HL1.out.below' bb; have hw2 : w.heap.size + 1 + 1 < w2.heap.size := Nat.lt_of_lt_of_le hpt bb.size; have D2 := bel_on B1 bb; have PB := blk_b0 w2 (cellsB zeroK).toArray 24 (.cells (cellsB zeroK).toArray 24); have QB := blk_b1 w2 (.cells (cellsB zeroK).toArray 24) (cellsB zeroK).toArray 24; have QB1 := QB.row_ne (g' := w2.heap.size) (cs' := (cellsB p).toArray) (by omega); have hrA : (rowAt ((w2.alloc (.cells #[.int .u8 0, .int .u8 0, .int .u8 0, .int .u8 0, .int .u8 0, .int .u8 0, .int .u8 0, .int .u8 0, .int .u8 0, .int .u8 0, .int .u8 0, .int .u8 0, .int .u8 0, .int .u8 0, .int .u8 0, .int .u8 0] 24)).alloc (.cells #[.int .u8 0, .int .u8 0, .int .u8 0, .int .u8 0, .int .u8 0, .int .u8 0, .int .u8 0, .int .u8 0, .int .u8 0, .int .u8 0, .int .u8 0, .int .u8 0, .int .u8 0, .int .u8 0, .int .u8 0, .int .u8 0] 24)) w2.heap.size).size = 16 := (by rw [HZ.out, PB.row]; rfl); have hfA : rowFree ((w2.alloc (.cells #[.int .u8 0, .int .u8 0, .int .u8 0, .int .u8 0, .int .u8 0, .int .u8 0, .int .u8 0, .int .u8 0, .int .u8 0, .int .u8 0, .int .u8 0, .int .u8 0, .int .u8 0, .int .u8 0, .int .u8 0, .int .u8 0] 24)).alloc (.cells #[.int .u8 0, .int .u8 0, .int .u8 0, .int .u8 0, .int .u8 0, .int .u8 0, .int .u8 0, .int .u8 0, .int .u8 0, .int .u8 0, .int .u8 0, .int .u8 0, .int .u8 0, .int .u8 0, .int .u8 0, .int .u8 0] 24)) w2.heap.size = true := (by rw [HZ.out]; exact PB.free); have hrB : (rowAt (((w2.alloc (.cells #[.int .u8 0, .int .u8 0, .int .u8 0, .int .u8 0, .int .u8 0, .int .u8 0, .int .u8 0, .int .u8 0, .int .u8 0, .int .u8 0, .int .u8 0, .int .u8 0, .int .u8 0, .int .u8 0, .int .u8 0, .int .u8 0] 24)).alloc (.cells #[.int .u8 0, .int .u8 0, .int .u8 0, .int .u8 0, .int .u8 0, .int .u8 0, .int .u8 0, .int .u8 0, .int .u8 0, .int .u8 0, .int .u8 0, .int .u8 0, .int .u8 0, .int .u8 0, .int .u8 0, .int .u8 0] 24)).setRow w2.heap.size (cellsB p).toArray) (w2.heap.size + 1)).size = 16 := (by rw [HZ.out, QB1.row]; rfl); have hfB : rowFree (((w2.alloc (.cells #[.int .u8 0, .int .u8 0, .int .u8 0, .int .u8 0, .int .u8 0, .int .u8 0, .int .u8 0, .int .u8 0, .int .u8 0, .int .u8 0, .int .u8 0, .int .u8 0, .int .u8 0, .int .u8 0, .int .u8 0, .int .u8 0] 24)).alloc (.cells #[.int .u8 0, .int .u8 0, .int .u8 0, .int .u8 0, .int .u8 0, .int .u8 0, .int .u8 0, .int .u8 0, .int .u8 0, .int .u8 0, .int .u8 0, .int .u8 0, .int .u8 0, .int .u8 0, .int .u8 0, .int .u8 0] 24)).setRow w2.heap.size (cellsB p).toArray) (w2.heap.size + 1) = true := (by rw [HZ.out]; exact QB1.free); have E2 := alloc2_bel w2 (.cells (cellsB zeroK).toArray 24) (.cells (cellsB zeroK).toArray 24); have P3 := Lib.hid ((PB.setRow (cellsB p).toArray).row_ne (g' := w2.heap.size + 1) (cs' := (cellsB q).toArray) (by omega)); have Q3 := Lib.hid (QB1.setRow (cellsB q).toArray); have R3 := Lib.hid (((R2.below' E2).row_ne (g' := w2.heap.size) (cs' := (cellsB p).toArray) (by omega)).row_ne (g' := w2.heap.size + 1) (cs' := (cellsB q).toArray) (by omega)); have L3 := Lib.hid (((L2.below' E2).row_ne (g' := w2.heap.size) (cs' := (cellsB p).toArray) (by omega)).row_ne (g' := w2.heap.size + 1) (cs' := (cellsB q).toArray) (by omega)); have D3 := Lib.hid (below_setRow (below_setRow (bel_on D2 E2) (g := w2.heap.size) (by omega) (cellsB p).toArray) (g := w2.heap.size + 1) (by omega) (cellsB q).toArray); clear PB QB QB1 R2 L2; clear ht2 hk2 hb2 bb)
        | (rw [HZ.out]; refine wpList_load_row rfl 24 (.tmp 9) rfl w2.heap.size rfl 24 (cellsB p).toArray (0, 0) _ P3.out under_key rfl (cellsB_size _ HPL.out) ?_)
        | (refine wpList_load_row rfl 24 (.tmp 3) rfl w.heap.size rfl 24 (cellsB before).toArray (0, 0) _ R3.out under_key rfl (cellsB_size _ HR.out) ?_)
)
      go_ret2
      rw [HS2.out]
      exact ⟨rfl, D3.out⟩
    | true =>
      have HS2 : Hid (vgS before after a b P = (q == after, 0)) := by unfold Hid; rw [HS.out, hpb]; rfl
      clear HS
      go_enter Tryz.func43, Tryz.ntmps43
      go_wp2_with (first
        | (go_at_call 103; refine (HF.out _).mono ?_; rintro e w1 ⟨rfl, hb1⟩; have B1 := bel_on b0 hb1; have R1 := R0.out.below' hb1; have L1 := L0.out.below' hb1; have P1 := P0.out.below' hb1; have p0 : w1.cell? ⟨w.heap.size + 1 + 1, 0, none⟩ = some (.int .i64 a) := P1.cell 0; have p1 : w1.cell? ⟨w.heap.size + 1 + 1, 1, none⟩ = some (.int .i64 b) := P1.cell 1; have p2 : w1.cell? ⟨w.heap.size + 1 + 1, 2, none⟩ = some (.slice A m c) := P1.cell 2; have hpt : w.heap.size + 1 + 1 < w1.heap.size := P1.lt; have HR1 := Lib.hid R1; have HL1 := Lib.hid L1; clear P1 hb1 R1 L1)
        | (refine wpList_load_row rfl 24 (.tmp 3) rfl w.heap.size rfl 24 (cellsB before).toArray (0, 0) _ (HR1.out.alloc _) under_key rfl (cellsB_size _ HR.out) ?_)
        | (go_at_call 104; refine (HG.out w1 B1).mono ?_; rintro e w2 ⟨rfl, ht2, hk2, hb2⟩; have bb := (alloc_bel w1 (.cells #[.slice none 0 0] 150)).trans hb2; have R2 := HR1.out.below' bb; have L2 := HL1.out.below' bb; have hw2 : w.heap.size + 1 + 1 < w2.heap.size := Nat.lt_of_lt_of_le hpt bb.size; have D2 := bel_on B1 bb; have PB := blk_b0 w2 (cellsB zeroK).toArray 24 (.cells (cellsB zeroK).toArray 24); have QB := blk_b1 w2 (.cells (cellsB zeroK).toArray 24) (cellsB zeroK).toArray 24; have QB1 := QB.row_ne (g' := w2.heap.size) (cs' := (cellsB p).toArray) (by omega); have hrA : (rowAt ((w2.alloc (.cells #[.int .u8 0, .int .u8 0, .int .u8 0, .int .u8 0, .int .u8 0, .int .u8 0, .int .u8 0, .int .u8 0, .int .u8 0, .int .u8 0, .int .u8 0, .int .u8 0, .int .u8 0, .int .u8 0, .int .u8 0, .int .u8 0] 24)).alloc (.cells #[.int .u8 0, .int .u8 0, .int .u8 0, .int .u8 0, .int .u8 0, .int .u8 0, .int .u8 0, .int .u8 0, .int .u8 0, .int .u8 0, .int .u8 0, .int .u8 0, .int .u8 0, .int .u8 0, .int .u8 0, .int .u8 0] 24)) w2.heap.size).size = 16 := (by rw [HZ.out, PB.row]; rfl); have hfA : rowFree ((w2.alloc (.cells #[.int .u8 0, .int .u8 0, .int .u8 0, .int .u8 0, .int .u8 0, .int .u8 0, .int .u8 0, .int .u8 0, .int .u8 0, .int .u8 0, .int .u8 0, .int .u8 0, .int .u8 0, .int .u8 0, .int .u8 0, .int .u8 0] 24)).alloc (.cells #[.int .u8 0, .int .u8 0, .int .u8 0, .int .u8 0, .int .u8 0, .int .u8 0, .int .u8 0, .int .u8 0, .int .u8 0, .int .u8 0, .int .u8 0, .int .u8 0, .int .u8 0, .int .u8 0, .int .u8 0, .int .u8 0] 24)) w2.heap.size = true := (by rw [HZ.out]; exact PB.free); have hrB : (rowAt (((w2.alloc (.cells #[.int .u8 0, .int .u8 0, .int .u8 0, .int .u8 0, .int .u8 0, .int .u8 0, .int .u8 0, .int .u8 0, .int .u8 0, .int .u8 0, .int .u8 0, .int .u8 0, .int .u8 0, .int .u8 0, .int .u8 0, .int .u8 0] 24)).alloc (.cells #[.int .u8 0, .int .u8 0, .int .u8 0, .int .u8 0, .int .u8 0, .int .u8 0, .int .u8 0, .int .u8 0, .int .u8 0, .int .u8 0, .int .u8 0, .int .u8 0, .int .u8 0, .int .u8 0, .int .u8 0, .int .u8 0] 24)).setRow w2.heap.size (cellsB p).toArray) (w2.heap.size + 1)).size = 16 := (by rw [HZ.out, QB1.row]; rfl); have hfB : rowFree (((w2.alloc (.cells #[.int .u8 0, .int .u8 0, .int .u8 0, .int .u8 0, .int .u8 0, .int .u8 0, .int .u8 0, .int .u8 0, .int .u8 0, .int .u8 0, .int .u8 0, .int .u8 0, .int .u8 0, .int .u8 0, .int .u8 0, .int .u8 0] 24)).alloc (.cells #[.int .u8 0, .int .u8 0, .int .u8 0, .int .u8 0, .int .u8 0, .int .u8 0, .int .u8 0, .int .u8 0, .int .u8 0, .int .u8 0, .int .u8 0, .int .u8 0, .int .u8 0, .int .u8 0, .int .u8 0, .int .u8 0] 24)).setRow w2.heap.size (cellsB p).toArray) (w2.heap.size + 1) = true := (by rw [HZ.out]; exact QB1.free); have E2 := alloc2_bel w2 (.cells (cellsB zeroK).toArray 24) (.cells (cellsB zeroK).toArray 24); have P3 := Lib.hid ((PB.setRow (cellsB p).toArray).row_ne (g' := w2.heap.size + 1) (cs' := (cellsB q).toArray) (by omega)); have Q3 := Lib.hid (QB1.setRow (cellsB q).toArray); have R3 := Lib.hid (((R2.below' E2).row_ne (g' := w2.heap.size) (cs' := (cellsB p).toArray) (by omega)).row_ne (g' := w2.heap.size + 1) (cs' := (cellsB q).toArray) (by omega)); have L3 := Lib.hid (((L2.below' E2).row_ne (g' := w2.heap.size) (cs' := (cellsB p).toArray) (by omega)).row_ne (g' := w2.heap.size + 1) (cs' := (cellsB q).toArray) (by omega)); have D3 := Lib.hid (below_setRow (below_setRow (bel_on D2 E2) (g := w2.heap.size) (by omega) (cellsB p).toArray) (g := w2.heap.size + 1) (by omega) (cellsB q).toArray); clear PB QB QB1 R2 L2; clear ht2 hk2 hb2 bb)
        | (rw [HZ.out]; refine wpList_load_row rfl 24 (.tmp 9) rfl w2.heap.size rfl 24 (cellsB p).toArray (0, 0) _ P3.out under_key rfl (cellsB_size _ HPL.out) ?_)
        | (refine wpList_load_row rfl 24 (.tmp 3) rfl w.heap.size rfl 24 (cellsB before).toArray (0, 0) _ R3.out under_key rfl (cellsB_size _ HR.out) ?_)
        | ((first | rw [hpb] | skip); refine BigFrame.wpList_want (by kernel_rfl) fun K hK => wp_load_row 24 (.tmp 10) rfl (w2.heap.size + 1) rfl 24 (cellsB q).toArray (0, 0) _ Q3.out under_key rfl (cellsB_size _ HQL.out) (hK _ _ ?_))
        | ((first | rw [hpb] | skip); refine BigFrame.wpList_want (by kernel_rfl) fun K hK => wp_load_row 24 (.tmp 4) rfl (w.heap.size + 1) rfl 24 (cellsB after).toArray (0, 0) _ L3.out under_key rfl (cellsB_size _ HK.out) (hK _ _ ?_)))
      go_ret2
      rw [HS2.out]
      exact ⟨rfl, D3.out⟩
end Go.Proofs.YtinpiodfpnbllaaGreatDoor
