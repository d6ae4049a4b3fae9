/-
  Lemmas and contracts, joined.
-/
import Derived.Laws.ResultCell
import Derived.Laws.Tables
import Derived.Lib.AppendZeros
import Derived.Great.BuildSlice
import Derived.Shelf.RegionOpenPlain
import Derived.Shelf.GgSortFunc.RowK
import Derived.Sort.WalkB12
import Derived.Lib.SlicesMore
import Derived.Lib.OwnBridge
import Derived.Deep.LoopGhost
import Derived.Laws.Cells
import Derived.Test.YtinpiodfpnbllaaGreatDoorAuB1
import Derived.Test.YtinpiodfpnbllaaGreatDoorAuA1
set_option linter.unusedSimpArgs false
set_option linter.unusedVariables false
set_option linter.unnecessarySimpa false
/- The program's Hash, for texts that are not too long. -/
namespace Go.Proofs.YtinpiodfpnbllaaGreatDoor
open Go.RowKit
set_option linter.unusedVariables false
attribute [local go_sem] run_storeCells_key

theorem splice_head (b : List UInt8) {n L : Nat} (hL : b.length = L) (h : L ≤ n) : splice (cellsB (List.replicate n 0)) 0 (cellsB b) = cellsB (b ++ List.replicate (n - L) 0) := by
  simp [splice, cellsB, hL]
theorem copy_src_all {w : World} {A : Option Addr} {c : Nat} {d : List UInt8} (h : BR w A c d) : 0 < (cellsB d).length → ∃ ad, A = some ad ∧ ∀ j v, (cellsB d)[j]? = some v → w.cell? (ad.add j) = some v := by
  have := copy_src h d.length
  rwa [List.take_length] at this

set_option maxHeartbeats 2000000 in
set_option maxRecDepth 100000 in
theorem Hash_any (b : List UInt8) (A : Option Addr) (c : Nat) (w : World) {L : Nat} (hL : b.length = L) (h : BR w A c b) (hl : L ≤ 16384) :
    Calls Tryz.prog 92 #[.slice A L c] w fun e w' => e = .returned (.tuple #[.agg (cellsB (digS b)).toArray, .int .i64 0]) ∧ Below w.heap.size w w' := by
  have hl1 : (L : Int) ≤ 16384 := by omega
  have HL := Lib.hid hL
  have H := Lib.hid h
  have HZ := Lib.hid zero16
  obtain ⟨n, hn⟩ : ∃ n, n = L + 9 + padZ L := ⟨_, rfl⟩
  have hn16 : n % 16 = 0 := by rw [hn]; unfold padZ; omega
  have hnb : n ≤ 20000 := by rw [hn]; unfold padZ; omega
  have hnL : L + 9 ≤ n := by omega
  have HSETS := Lib.hid (padB_sets b hL (by omega) hn)
  have HPL : Hid ((padB b).length = n) := by unfold Hid; rw [padB_length, hL, hn]
  have HDG : Hid (digS b = dgFold (padB b) salt (n / 16)) := by unfold Hid digS; rw [HPL.out, dgFold_dgN]
  have hmk := run_make_row' (P := Tryz.prog) 22 5 (.int .u8 0) 1 Tryz.underlying22 (by kernel_rfl) rfl .i64 .i64 n (by omega) (by omega)
  have HMB := Lib.hid (made_bytes n)
  have hnI : (n : Int) = (L : Int) / 16 * 16 + 16 + (if (7 : Int) < (L : Int) % 16 then 16 else 0) := by
    rw [hn]; unfold padZ
    split <;> omega
  have HSRC := Lib.hid (fun W (hW : Below w.heap.size w W) => copy_src_all (h.below hW))
  by_cases hr : (7 : Int) < (L : Int) % 16
  · rw [if_pos hr] at hnI
    have HNI := Lib.hid hnI
    clear hL h hl hn hnI
    go_enter Tryz.func92, Tryz.ntmps92
    go_wp2_with (first
      | (rw [← HNI.out])
      | (rw [HMB.out, HZ.out]; refine wpList_copy_splice rfl (.tmp 25) (.tmp 26) 22 22 rfl 5 Tryz.underlying22 (by kernel_rfl) (some ⟨w.heap.size + 1, 0, none⟩) A n n L c rfl rfl (w.heap.size + 1) 0 (cellsB (List.replicate n 0)) 5 (blk_b1 w _ _ _) (cellsB b) (by rw [cellsB_length, HL.out]; simp [Nat.min_def]; omega) (fun h => ⟨rfl, HSRC.out _ (alloc2_bel w _ _) h⟩) (by rw [cellsB_length, HL.out, cellsB_length, List.length_replicate]; omega) (cells_one b) (w.heap.size + 1) (w.alloc (.cells (cellsB zeroK).toArray 24)) ((Below.refl _ _).alloc (by simp) _) (Nat.le_refl _) ?_; intro w4 hg4 hb4; rw [splice_head b HL.out (by omega)] at hg4; have G4 : Hid (Blk w4 (w.heap.size + 1) 5 (cellsB (b ++ List.replicate (n - L) 0)).toArray) := hg4; clear hg4; have R4 := Lib.hid ((Blk.new w 24 (cellsB zeroK).toArray).below hb4 (by omega)); have b4 := (alloc_bel w (.cells (cellsB zeroK).toArray 24)).trans (hb4.mono (by omega)); have c4 := G4.out.cell L; rw [bytes_get _ L (by rw [List.length_append, List.length_replicate, HL.out]; omega)] at c4; have f4 := G4.out.frozen L; have c5 := G4.out.cell (n - 2); rw [bytes_get _ (n - 2) (by rw [List.length_append, List.length_replicate, HL.out]; omega)] at c5; have f5 := G4.out.frozen (n - 2); have c6 := G4.out.cell (n - 1); rw [bytes_get _ (n - 1) (by rw [List.length_append, List.length_replicate, HL.out]; omega)] at c6; have f6 := G4.out.frozen (n - 1); clear hb4))
    have e1 : ((128 : UInt8).toNat : Int) = 128 := rfl
    have e2 : ((UInt8.ofNat (L / 256)).toNat : Int) = (L : Int) / 256 := by rw [UInt8.toNat_ofNat']; omega
    have e3 : ((UInt8.ofNat L).toNat : Int) = (L : Int) % 256 := by rw [UInt8.toNat_ofNat']; omega
    have G9 := ((G4.out.set_ L (.int .u8 ((128 : UInt8).toNat : Int))).set_ (n - 2) (.int .u8 ((UInt8.ofNat (L / 256)).toNat : Int))).set_ (n - 1) (.int .u8 ((UInt8.ofNat L).toNat : Int))
    rw [bytes_set, bytes_set, bytes_set, HSETS.out, e1, e2, e3] at G9
    have RZ := (((R4.out.far (p := ⟨w.heap.size + 1, L, none⟩) (by simp) (.int .u8 128)).far (p := ⟨w.heap.size + 1, n - 2, none⟩) (by simp) (.int .u8 ((L : Int) / 256))).far (p := ⟨w.heap.size + 1, n - 1, none⟩) (by simp) (.int .u8 ((L : Int) % 256)))
    have b3 := ((b4.setCell (p := ⟨w.heap.size + 1, L, none⟩) (by simp) (.int .u8 128)).setCell (p := ⟨w.heap.size + 1, n - 2, none⟩) (by simp) (.int .u8 ((L : Int) / 256))).setCell (p := ⟨w.heap.size + 1, n - 1, none⟩) (by simp) (.int .u8 ((L : Int) % 256))
    have hgl : w.heap.size + 1 < w4.heap.size := G4.out.lt
    rw [HZ.out]
    obtain ⟨W3, hW3⟩ : ∃ W : World, W = ((w4.setCell ⟨w.heap.size + 1, L, none⟩ (.int .u8 128)).setCell ⟨w.heap.size + 1, n - 2, none⟩ (.int .u8 ((L : Int) / 256))).setCell ⟨w.heap.size + 1, n - 1, none⟩ (.int .u8 ((L : Int) % 256)) := ⟨_, rfl⟩
    have hsz : W3.heap.size = w4.heap.size := by rw [hW3]; simp
    rw [← hW3] at G9 RZ b3 ⊢
    have N9 : Blk (W3.alloc (.cells (cellsB zeroK).toArray 24)) w4.heap.size 24 (cellsB zeroK).toArray := by rw [← hsz]; exact Blk.new _ _ _
    have G9' := G9.alloc (.cells (cellsB zeroK).toArray 24)
    have RZ' := RZ.alloc (.cells (cellsB zeroK).toArray 24)
    have b9 := b3.alloc b3.size (.cells (cellsB zeroK).toArray 24)
    generalize W3.alloc (.cells (cellsB zeroK).toArray 24) = W9 at N9 G9' RZ' b9 ⊢
    clear hW3 hsz G9 RZ b3 c4 c5 c6 f4 f5 f6 e1 e2 e3
    have HN9 := Lib.hid N9
    have HG9 := Lib.hid G9'
    have HRZ := Lib.hid RZ'
    clear N9 G9' RZ'
    go_loopw [47] (fun vi wr => ∃ i : Nat, i ≤ 16 ∧ vi = .int .i64 (i : Int) ∧ Hid (Blk wr w4.heap.size 24 (cellsB (saltJ i)).toArray) ∧ Hid (Blk wr (w.heap.size + 1) 5 (cellsB (padB b)).toArray) ∧ Hid (Blk wr w.heap.size 24 (cellsB zeroK).toArray) ∧ Below w.heap.size w wr) (fun vi _ => 16 - (intOf vi).toNat)
    case atStart => exact ⟨0, by omega, rfl, HN9.out, HG9.out, HRZ.out, b9⟩
    case round =>
      obtain ⟨i, hi, rfl, HB1, HG, HB0, hbel⟩ := hrel
      by_cases hlt : i < 16
      · have hii : (i : Int) < 16 := by omega
        have c0 := HB1.out.cell i
        rw [bytes_get _ i (by rw [saltJ_length hi]; exact hlt)] at c0
        have f0 := HB1.out.frozen i
        have HSET := Lib.hid (saltJ_set hlt)
        clear hlt
        go_wp2_with fail
        refine ⟨⟨i + 1, by omega, by go_num, ?_, HG.out.far (p := ⟨w4.heap.size, i, none⟩) (by simp; omega) _, HB0.out.far (p := ⟨w4.heap.size, i, none⟩) (by simp; omega) _, hbel.setCell (p := ⟨w4.heap.size, i, none⟩) (by simp; omega) _⟩, by simp [intOf]; omega⟩
        have h := HB1.out.set_ i (.int .u8 ((90 : UInt8).toNat : Int))
        rw [bytes_set, HSET.out] at h
        exact h
      · obtain rfl : i = 16 := by omega
        rw [show saltJ 16 = salt from rfl] at HB1
        have HFO : Hid (∀ W, BR W (some ⟨w.heap.size + 1, 0, none⟩) n (padB b) → Calls Tryz.prog 149 #[.agg (cellsB salt).toArray, .slice (some ⟨w.heap.size + 1, 0, none⟩) n n, .func (.func 150) #[] #[]] W fun e w' => e = .returned (.agg (cellsB (dgFold (padB b) salt (n / 16))).toArray) ∧ Below W.heap.size W w') := fun W hW => fold_any (padB b) salt _ n W HPL.out hn16 hW rfl
        have HBR : Hid (BR wr (some ⟨w.heap.size + 1, 0, none⟩) n (padB b)) := (HG.out.ob (Nat.le_refl _) HPL.out rfl (by omega)).br (by rw [HPL.out]; omega)
        have HSL : Hid (salt.length = 16) := rfl
        have HFL : Hid ((dgFold (padB b) salt (n / 16)).length = 16) := dgFold_length rfl _
        generalize dgFold (padB b) salt (n / 16) = f at HFO HFL HDG
        generalize salt = s0 at HB1 HFO HSL
        have hfl : (cellsB f).length = 16 := by rw [cellsB_length, HFL.out]
        have hall := all16 f
        go_wp2_with (first
          | (refine wpList_load_row rfl 24 (.tmp 6) rfl w4.heap.size rfl 24 (cellsB s0).toArray (0, 0) _ HB1.out under_key rfl (cellsB_size _ HSL.out) ?_)
          | (go_at_call 149; refine (HFO.out _ HBR.out).mono ?_; rintro e w5 ⟨rfl, hb5⟩; have Q5 := HB0.out.below' hb5; have hr5 : (rowAt w5 w.heap.size).size = 16 := (by rw [Q5.row]; rfl); have hf5 := Q5.free; have HQ5 := Lib.hid Q5; have bb5 := bel_on hbel hb5; clear Q5))
        refine bodyPost_ret (v := .tuple #[.agg (cellsB f).toArray, .int .i64 0]) ?_ rfl ⟨by rw [HDG.out], below_setRow bb5 (Nat.le_refl _) _⟩
        rw [results_cell_tmp Tryz.results92]
        simp [asAddr, Result.andThen, run_loadVar_row _ w.heap.size _ _ _ (0, 0) _ (HQ5.out.setRow (cellsB f).toArray) under_key rfl (cellsB_size _ HFL.out)]
  · rw [if_neg hr, Int.add_zero] at hnI
    have hr : (L : Int) % 16 ≤ 7 := by omega
    have HNI := Lib.hid hnI
    clear hL h hl hn hnI
    go_enter Tryz.func92, Tryz.ntmps92
    go_wp2_with (first
      | (rw [← HNI.out])
      | (rw [HMB.out, HZ.out]; refine wpList_copy_splice rfl (.tmp 25) (.tmp 26) 22 22 rfl 5 Tryz.underlying22 (by kernel_rfl) (some ⟨w.heap.size + 1, 0, none⟩) A n n L c rfl rfl (w.heap.size + 1) 0 (cellsB (List.replicate n 0)) 5 (blk_b1 w _ _ _) (cellsB b) (by rw [cellsB_length, HL.out]; simp [Nat.min_def]; omega) (fun h => ⟨rfl, HSRC.out _ (alloc2_bel w _ _) h⟩) (by rw [cellsB_length, HL.out, cellsB_length, List.length_replicate]; omega) (cells_one b) (w.heap.size + 1) (w.alloc (.cells (cellsB zeroK).toArray 24)) ((Below.refl _ _).alloc (by simp) _) (Nat.le_refl _) ?_; intro w4 hg4 hb4; rw [splice_head b HL.out (by omega)] at hg4; have G4 : Hid (Blk w4 (w.heap.size + 1) 5 (cellsB (b ++ List.replicate (n - L) 0)).toArray) := hg4; clear hg4; have R4 := Lib.hid ((Blk.new w 24 (cellsB zeroK).toArray).below hb4 (by omega)); have b4 := (alloc_bel w (.cells (cellsB zeroK).toArray 24)).trans (hb4.mono (by omega)); have c4 := G4.out.cell L; rw [bytes_get _ L (by rw [List.length_append, List.length_replicate, HL.out]; omega)] at c4; have f4 := G4.out.frozen L; have c5 := G4.out.cell (n - 2); rw [bytes_get _ (n - 2) (by rw [List.length_append, List.length_replicate, HL.out]; omega)] at c5; have f5 := G4.out.frozen (n - 2); have c6 := G4.out.cell (n - 1); rw [bytes_get _ (n - 1) (by rw [List.length_append, List.length_replicate, HL.out]; omega)] at c6; have f6 := G4.out.frozen (n - 1); clear hb4))
    have e1 : ((128 : UInt8).toNat : Int) = 128 := rfl
    have e2 : ((UInt8.ofNat (L / 256)).toNat : Int) = (L : Int) / 256 := by rw [UInt8.toNat_ofNat']; omega
    have e3 : ((UInt8.ofNat L).toNat : Int) = (L : Int) % 256 := by rw [UInt8.toNat_ofNat']; omega
    have G9 := ((G4.out.set_ L (.int .u8 ((128 : UInt8).toNat : Int))).set_ (n - 2) (.int .u8 ((UInt8.ofNat (L / 256)).toNat : Int))).set_ (n - 1) (.int .u8 ((UInt8.ofNat L).toNat : Int))
    rw [bytes_set, bytes_set, bytes_set, HSETS.out, e1, e2, e3] at G9
    have RZ := (((R4.out.far (p := ⟨w.heap.size + 1, L, none⟩) (by simp) (.int .u8 128)).far (p := ⟨w.heap.size + 1, n - 2, none⟩) (by simp) (.int .u8 ((L : Int) / 256))).far (p := ⟨w.heap.size + 1, n - 1, none⟩) (by simp) (.int .u8 ((L : Int) % 256)))
    have b3 := ((b4.setCell (p := ⟨w.heap.size + 1, L, none⟩) (by simp) (.int .u8 128)).setCell (p := ⟨w.heap.size + 1, n - 2, none⟩) (by simp) (.int .u8 ((L : Int) / 256))).setCell (p := ⟨w.heap.size + 1, n - 1, none⟩) (by simp) (.int .u8 ((L : Int) % 256))
    have hgl : w.heap.size + 1 < w4.heap.size := G4.out.lt
    rw [HZ.out]
    obtain ⟨W3, hW3⟩ : ∃ W : World, W = ((w4.setCell ⟨w.heap.size + 1, L, none⟩ (.int .u8 128)).setCell ⟨w.heap.size + 1, n - 2, none⟩ (.int .u8 ((L : Int) / 256))).setCell ⟨w.heap.size + 1, n - 1, none⟩ (.int .u8 ((L : Int) % 256)) := ⟨_, rfl⟩
    have hsz : W3.heap.size = w4.heap.size := by rw [hW3]; simp
    rw [← hW3] at G9 RZ b3 ⊢
    have N9 : Blk (W3.alloc (.cells (cellsB zeroK).toArray 24)) w4.heap.size 24 (cellsB zeroK).toArray := by rw [← hsz]; exact Blk.new _ _ _
    have G9' := G9.alloc (.cells (cellsB zeroK).toArray 24)
    have RZ' := RZ.alloc (.cells (cellsB zeroK).toArray 24)
    have b9 := b3.alloc b3.size (.cells (cellsB zeroK).toArray 24)
    generalize W3.alloc (.cells (cellsB zeroK).toArray 24) = W9 at N9 G9' RZ' b9 ⊢
    clear hW3 hsz G9 RZ b3 c4 c5 c6 f4 f5 f6 e1 e2 e3
    have HN9 := Lib.hid N9
    have HG9 := Lib.hid G9'
    have HRZ := Lib.hid RZ'
    clear N9 G9' RZ'
    go_loopw [47] (fun vi wr => ∃ i : Nat, i ≤ 16 ∧ vi = .int .i64 (i : Int) ∧ Hid (Blk wr w4.heap.size 24 (cellsB (saltJ i)).toArray) ∧ Hid (Blk wr (w.heap.size + 1) 5 (cellsB (padB b)).toArray) ∧ Hid (Blk wr w.heap.size 24 (cellsB zeroK).toArray) ∧ Below w.heap.size w wr) (fun vi _ => 16 - (intOf vi).toNat)
    case atStart => exact ⟨0, by omega, rfl, HN9.out, HG9.out, HRZ.out, b9⟩
    case round =>
      obtain ⟨i, hi, rfl, HB1, HG, HB0, hbel⟩ := hrel
      by_cases hlt : i < 16
      · have hii : (i : Int) < 16 := by omega
        have c0 := HB1.out.cell i
        rw [bytes_get _ i (by rw [saltJ_length hi]; exact hlt)] at c0
        have f0 := HB1.out.frozen i
        have HSET := Lib.hid (saltJ_set hlt)
        clear hlt
        go_wp2_with fail
        refine ⟨⟨i + 1, by omega, by go_num, ?_, HG.out.far (p := ⟨w4.heap.size, i, none⟩) (by simp; omega) _, HB0.out.far (p := ⟨w4.heap.size, i, none⟩) (by simp; omega) _, hbel.setCell (p := ⟨w4.heap.size, i, none⟩) (by simp; omega) _⟩, by simp [intOf]; omega⟩
        have h := HB1.out.set_ i (.int .u8 ((90 : UInt8).toNat : Int))
        rw [bytes_set, HSET.out] at h
        exact h
      · obtain rfl : i = 16 := by omega
        rw [show saltJ 16 = salt from rfl] at HB1
        have HFO : Hid (∀ W, BR W (some ⟨w.heap.size + 1, 0, none⟩) n (padB b) → Calls Tryz.prog 149 #[.agg (cellsB salt).toArray, .slice (some ⟨w.heap.size + 1, 0, none⟩) n n, .func (.func 150) #[] #[]] W fun e w' => e = .returned (.agg (cellsB (dgFold (padB b) salt (n / 16))).toArray) ∧ Below W.heap.size W w') := fun W hW => fold_any (padB b) salt _ n W HPL.out hn16 hW rfl
        have HBR : Hid (BR wr (some ⟨w.heap.size + 1, 0, none⟩) n (padB b)) := (HG.out.ob (Nat.le_refl _) HPL.out rfl (by omega)).br (by rw [HPL.out]; omega)
        have HSL : Hid (salt.length = 16) := rfl
        have HFL : Hid ((dgFold (padB b) salt (n / 16)).length = 16) := dgFold_length rfl _
        generalize dgFold (padB b) salt (n / 16) = f at HFO HFL HDG
        generalize salt = s0 at HB1 HFO HSL
        have hfl : (cellsB f).length = 16 := by rw [cellsB_length, HFL.out]
        have hall := all16 f
        go_wp2_with (first
          | (refine wpList_load_row rfl 24 (.tmp 6) rfl w4.heap.size rfl 24 (cellsB s0).toArray (0, 0) _ HB1.out under_key rfl (cellsB_size _ HSL.out) ?_)
          | (go_at_call 149; refine (HFO.out _ HBR.out).mono ?_; rintro e w5 ⟨rfl, hb5⟩; have Q5 := HB0.out.below' hb5; have hr5 : (rowAt w5 w.heap.size).size = 16 := (by rw [Q5.row]; rfl); have hf5 := Q5.free; have HQ5 := Lib.hid Q5; have bb5 := bel_on hbel hb5; clear Q5))
        refine bodyPost_ret (v := .tuple #[.agg (cellsB f).toArray, .int .i64 0]) ?_ rfl ⟨by rw [HDG.out], below_setRow bb5 (Nat.le_refl _) _⟩
        rw [results_cell_tmp Tryz.results92]
        simp [asAddr, Result.andThen, run_loadVar_row _ w.heap.size _ _ _ (0, 0) _ (HQ5.out.setRow (cellsB f).toArray) under_key rfl (cellsB_size _ HFL.out)]
end Go.Proofs.YtinpiodfpnbllaaGreatDoor

/- Lists of keys in memory. -/
namespace Go.Proofs.YtinpiodfpnbllaaGreatDoor
open Go.RowKit
set_option linter.unusedVariables false

def cellsK (ks : List (List UInt8)) : List Value := ks.flatMap cellsB
def Keys16 (ks : List (List UInt8)) : Prop := ∀ k ∈ ks, k.length = 16
theorem Keys16.take {ks : List (List UInt8)} (h : Keys16 ks) (n : Nat) : Keys16 (ks.take n) := fun k hk => h k (List.mem_of_mem_take hk)
theorem Keys16.drop {ks : List (List UInt8)} (h : Keys16 ks) (n : Nat) : Keys16 (ks.drop n) := fun k hk => h k (List.mem_of_mem_drop hk)
theorem cellsK_length : ∀ {ks : List (List UInt8)}, Keys16 ks → (cellsK ks).length = ks.length * 16
  | [], _ => rfl
  | k :: ks, h => by
    have h1 := h k List.mem_cons_self
    have h2 := cellsK_length (ks := ks) fun x hx => h x (List.mem_cons_of_mem _ hx)
    unfold cellsK at h2 ⊢
    rw [List.flatMap_cons, List.length_append, h2, cellsB_length, h1, List.length_cons]
    omega
theorem cellsK_append (a b : List (List UInt8)) : cellsK (a ++ b) = cellsK a ++ cellsK b := by simp [cellsK]
theorem cellsK_one (a : List UInt8) : cellsK [a] = cellsB a := by simp [cellsK]
theorem cellsK_take {ks : List (List UInt8)} (h : Keys16 ks) (n : Nat) (hn : n ≤ ks.length) : (cellsK ks).take (n * 16) = cellsK (ks.take n) := by
  have h1 : (cellsK (ks.take n)).length = n * 16 := by rw [cellsK_length (h.take n), List.length_take, Nat.min_eq_left hn]
  conv => lhs; rw [← List.take_append_drop n ks, cellsK_append]
  rw [List.take_append_of_le_length (by omega), List.take_of_length_le (by omega)]
theorem cellsK_drop {ks : List (List UInt8)} (h : Keys16 ks) (n : Nat) (hn : n ≤ ks.length) : (cellsK ks).drop (n * 16) = cellsK (ks.drop n) := by
  have h1 : (cellsK (ks.take n)).length = n * 16 := by rw [cellsK_length (h.take n), List.length_take, Nat.min_eq_left hn]
  conv => lhs; rw [← List.take_append_drop n ks, cellsK_append]
  rw [List.drop_append_of_le_length (by omega), List.drop_of_length_le (by omega), List.nil_append]
theorem cells_oneK (ks : List (List UInt8)) : ∀ v ∈ cellsK ks, v.oneCell' = true := fun v hv => by
  obtain ⟨k, _, hv⟩ := List.mem_flatMap.1 hv
  exact cells_one k v hv
/-- A slice that reads as keys. -/
def KR (w : World) (A : Option Addr) (c : Nat) (ks : List (List UInt8)) : Prop := Rd w 16 A c ks.length (cellsK ks) ∧ Keys16 ks
section
variable {w w' : World} {c : Nat} {A : Option Addr} {ks : List (List UInt8)}
theorem KR.below (h : KR w A c ks) (hb : Below w.heap.size w w') : KR w' A c ks := ⟨Rd.below h.1 hb, h.2⟩
theorem KR.len (h : KR w A c ks) : ks.length ≤ 140737488351232 := Rd.len h.1
theorem KR.at_ (h : KR w A c ks) {i : Nat} (hi : i < ks.length) : ∃ b off, A = some ⟨b, off, none⟩ ∧ b < w.heap.size ∧ w.rangeAt b (off + i * 16) (cellsB ks[i]) := by
  obtain ⟨b, off, e, hb, hc⟩ := h.1.2 (by omega)
  refine ⟨b, off, e, hb, fun j v hv => ?_⟩
  rw [Nat.add_assoc]
  refine hc (i * 16 + j) v ?_
  have h1 := cellsK_drop h.2 i (by omega)
  have h2 : (cellsK (ks.drop i))[j]? = some v := by
    rw [List.drop_eq_getElem_cons hi]
    unfold cellsK
    rw [List.flatMap_cons, List.getElem?_append_left ?_, hv]
    rcases Nat.lt_or_ge j (cellsB ks[i]).length with h' | h'
    · exact h'
    · rw [List.getElem?_eq_none h'] at hv; cases hv
  rw [← h1, List.getElem?_drop] at h2
  exact h2
/-- The beginning of a list. -/
theorem KR.take (h : KR w A c ks) (n : Nat) (hn : n ≤ ks.length) : KR w A c (ks.take n) := by
  have hle := Rd.le h.1
  have hl := Rd.len h.1
  have hcp := Rd.cap h.1
  refine ⟨⟨⟨cellsK_length (h.2.take n), by rw [List.length_take]; omega, hcp, by rw [List.length_take]; omega⟩, fun hne => ?_⟩, h.2.take n⟩
  rw [List.length_take] at hne
  obtain ⟨b, off, e, hb, hc⟩ := h.1.2 (by omega)
  refine ⟨b, off, e, hb, fun j v hv => hc j v ?_⟩
  rw [← cellsK_take h.2 n hn, List.getElem?_take] at hv
  split at hv
  · exact hv
  · cases hv
/-- Where a cut 'l[n:]' of keys leads. -/
def dropK (A : Option Addr) (n c : Nat) : Option Addr := if c = n then A else A.map fun x => x.add (n * 16)
theorem KR.drop (h : KR w A c ks) (n : Nat) (hn : n ≤ ks.length) : KR w (dropK A n c) (c - n) (ks.drop n) := by
  have hle := Rd.le h.1
  have hl := Rd.len h.1
  have hcp := Rd.cap h.1
  refine ⟨⟨⟨cellsK_length (h.2.drop n), by rw [List.length_drop]; omega, by omega, by rw [List.length_drop]; omega⟩, fun hne => ?_⟩, h.2.drop n⟩
  rw [List.length_drop] at hne
  obtain ⟨b, off, e, hb, hc⟩ := h.1.2 (by omega)
  refine ⟨b, off + n * 16, by rw [dropK, if_neg (by omega), e]; simp [Addr.add], hb, fun j v hv => ?_⟩
  rw [Nat.add_assoc]
  refine hc (n * 16 + j) v ?_
  rw [← cellsK_drop h.2 n hn, List.getElem?_drop] at hv
  exact hv
end
/-- The cuts themselves. -/
theorem slice_keys_from (W : World) (A : Option Addr) (m c n : Nat) (h : n ≤ m) :
    (Instr.slice 25 (.slice A m c) (some (.int .i64 (n : Int))) none none).run Tryz.prog W = .ok (.slice (dropK A n c) (m - n) (c - n)) W := by
  have e : Tryz.prog.elem 25 = 24 := by kernel_rfl
  rw [run_slice_l (P := Tryz.prog) (w := W) 25 A m c (by rw [e]; exact Tryz.underlying25) .i64 n (by omega) (by omega), e, Tryz.sizeOf24 W]
  simp [Result.andThen, sliced, dropK]
theorem slice_keys_to (W : World) (A : Option Addr) (m c n : Nat) (h : n ≤ c) :
    (Instr.slice 25 (.slice A m c) none (some (.int .i64 (n : Int))) none).run Tryz.prog W = .ok (.slice A n c) W := by
  have e : Tryz.prog.elem 25 = 24 := by kernel_rfl
  rw [run_slice_h (P := Tryz.prog) (w := W) 25 A m c (by rw [e]; exact Tryz.underlying25) .i64 n (by omega) (by omega), e, Tryz.sizeOf24 W]
  simp [Result.andThen, sliced]
  intro _
  rcases A with _ | ⟨b, o, s⟩
  · rfl
  · cases s <;> simp [Addr.add]
/-- Keys that the call owns. -/
def OK16 (B : Nat) (w : World) (A : Option Addr) (c : Nat) (ks : List (List UInt8)) : Prop := w.ownsRow B 24 16 (.slice A ks.length c) ks.length (cellsK ks)
theorem key_info3 : (Tryz.prog.info? 24).map (fun i => (i.zero, i.size, i.bytes)) = some (some (.agg (cellsB zeroK).toArray), 16, 16) := by kernel_rfl
end Go.Proofs.YtinpiodfpnbllaaGreatDoor

/- The texts of leaves and nodes. -/
namespace Go.Proofs.YtinpiodfpnbllaaGreatDoor
open Go.RowKit
set_option linter.unusedVariables false

def leafX (k : List UInt8) : List UInt8 := 0 :: k
def nodeX (a b : List UInt8) : List UInt8 := 1 :: (a ++ b)
theorem Blk.src {w : World} {g : Nat} {t : TypeId} {l : List UInt8} (h : Blk w g t (cellsB l).toArray) {n : Nat} (hn : l.length = n) : Src w 1 (some ⟨g, 0, none⟩) n (cellsB l) := by
  subst hn
  refine ⟨by simp [cellsB], .inr ⟨_, rfl, fun j u hu => ?_⟩⟩
  rw [Addr.add_lit, Nat.zero_add, h.cell j]
  simpa using hu
theorem lit_after (w : World) (o : Obj) (x : UInt8) : OB w.heap.size ((w.alloc o).alloc (.cells #[.int .u8 (x.toNat : Int)] 5)) (some ⟨w.heap.size + 1, 0, none⟩) 1 [x] := by
  have h := OB.lit w.heap.size (w.alloc o) [x] (by simp) (by simp) (n := 1) rfl
  rw [World.size_alloc] at h
  exact h
theorem lit_after2 (w : World) (o o' : Obj) (x : UInt8) : OB (w.heap.size + 1 + 1) (((w.alloc o).alloc o').alloc (.cells #[.int .u8 (x.toNat : Int)] 5)) (some ⟨w.heap.size + 1 + 1, 0, none⟩) 1 [x] := by
  have h := OB.lit (w.heap.size + 1 + 1) ((w.alloc o).alloc o') [x] (by simp) (by simp) (n := 1) rfl
  rw [World.size_alloc, World.size_alloc] at h
  exact h

set_option maxHeartbeats 1000000 in
theorem leafText_any (k : List UInt8) (w : World) (hk : k.length = 16) : Calls Tryz.prog 96 #[.agg (cellsB k).toArray] w fun e w' => (∃ A c, e = .returned (.slice A 17 c) ∧ OB w.heap.size w' A c (leafX k)) ∧ Below w.heap.size w w' := by
  have HK := Lib.hid hk
  have HL := Lib.hid (lit_after w (.cells (cellsB k).toArray 24) 0)
  have HB := Lib.hid (blk_b0 w (cellsB k).toArray 24 (.cells #[.int .u8 ((0 : UInt8).toNat : Int)] 5))
  have b0 := alloc2_bel w (.cells (cellsB k).toArray 24) (.cells #[.int .u8 ((0 : UInt8).toNat : Int)] 5)
  clear hk
  go_enter Tryz.func96, Tryz.ntmps96
  go_wp2_with (at_builtin; refine wpList_append_bytes _ rfl (.tmp 3) (.tmp 4) rfl w.heap.size (some ⟨w.heap.size + 1, 0, none⟩) 1 1 [0] rfl rfl HL.out (some ⟨w.heap.size, 0, none⟩) 16 16 k HK.out rfl (HB.out.src HK.out) (by omega) (by simp; omega) ?_; intro A5 c5 w5 hon5 hbl5 hg5; have HON5 := Lib.hid hon5; have b5 := b0.trans hbl5; clear hon5 hg5 hbl5)
  go_ret
  exact ⟨⟨A5, c5, rfl, HON5.out⟩, b5⟩
end Go.Proofs.YtinpiodfpnbllaaGreatDoor

/- The program's digest of a text that is not too long, and of a leaf. -/
namespace Go.Proofs.YtinpiodfpnbllaaGreatDoor
open Go.RowKit
set_option linter.unusedVariables false
attribute [local go_sem] run_storeCells_key run_storeCells_new

set_option maxHeartbeats 1000000 in
set_option maxRecDepth 100000 in
theorem digest_any (b : List UInt8) (A : Option Addr) (c : Nat) (w : World) {L : Nat} (hL : b.length = L) (h : BR w A c b) (hl : L ≤ 16384) :
    Calls Tryz.prog 121 #[.slice A L c] w fun e w' => e = .returned (.agg (cellsB (digS b)).toArray) ∧ Below w.heap.size w w' := by
  have HZ := Lib.hid zero16
  have b0 := alloc_bel w (.cells (cellsB zeroK).toArray 24)
  have B0 := Lib.hid (Blk.new w 24 (cellsB zeroK).toArray)
  have HH : Hid (∀ W, Below w.heap.size w W → Calls Tryz.prog 92 #[.slice A L c] W fun e w' => e = .returned (.tuple #[.agg (cellsB (digS b)).toArray, .int .i64 0]) ∧ Below W.heap.size W w') := fun W hW => Hash_any b A c W hL (h.below hW) hl
  have HDL : Hid ((digS b).length = 16) := digS_length b
  generalize digS b = d at HH HDL
  have hdc : (cellsB d).length = 16 := by rw [cellsB_length, HDL.out]
  have hall := all16 d
  clear hL h hl
  go_enter Tryz.func121, Tryz.ntmps121
  go_wp2_with (first
    | (go_at_call 92; rw [HZ.out]; refine (HH.out _ b0).mono ?_; rintro e w1 ⟨rfl, hb1⟩; have b1 := bel_on b0 hb1; have Q1 := (B0.out.below' hb1).alloc (.cells (cellsB d).toArray 24); have hr1 : (rowAt (w1.alloc (.cells (cellsB d).toArray 24)) w.heap.size).size = 16 := (by rw [Q1.row]; rfl); have hf1 := Q1.free; have HQ1 := Lib.hid Q1; clear Q1)
    | (refine wpList_load_row rfl 24 (.tmp 3) rfl w1.heap.size rfl 24 (cellsB d).toArray (0, 0) _ (Blk.new w1 _ _) under_key rfl (cellsB_size _ HDL.out) ?_))
  exact bodyPost_ret (results_cell_row rfl _ _ w.heap.size _ _ (0, 0) _ rfl (HQ1.out.setRow (cellsB d).toArray) under_key rfl (cellsB_size _ HDL.out)) rfl ⟨rfl, below_setRow (b1.alloc b1.size _) (Nat.le_refl _) _⟩
set_option maxHeartbeats 1000000 in
set_option maxRecDepth 100000 in
theorem leafHash_any (k : List UInt8) (w : World) (hk : k.length = 16) :
    Calls Tryz.prog 140 #[.agg (cellsB k).toArray] w fun e w' => e = .returned (.agg (cellsB (digS (leafT k))).toArray) ∧ Below w.heap.size w w' := by
  have HZ := Lib.hid zero16
  have HK := Lib.hid hk
  have b0 := alloc2_bel w (.cells (cellsB k).toArray 24) (.cells (cellsB zeroK).toArray 24)
  have B1 := Lib.hid (blk_b1 w (.cells (cellsB k).toArray 24) (cellsB zeroK).toArray 24)
  have HLT : Hid (∀ W, Calls Tryz.prog 96 #[.agg (cellsB k).toArray] W fun e w' => (∃ A c, e = .returned (.slice A 17 c) ∧ OB W.heap.size w' A c (leafT k)) ∧ Below W.heap.size W w') := fun W => leafText_any k W hk
  have HLL : Hid ((leafT k).length = 17) := by unfold Hid leafT; simp [hk]
  have HD : Hid (∀ W A c, BR W A c (leafT k) → Calls Tryz.prog 121 #[.slice A 17 c] W fun e w' => e = .returned (.agg (cellsB (digS (leafT k))).toArray) ∧ Below W.heap.size W w') := fun W A c h => digest_any (leafT k) A c W HLL.out h (by omega)
  have HDL : Hid ((digS (leafT k)).length = 16) := digS_length _
  generalize digS (leafT k) = d at HD HDL
  generalize leafT k = t at HLT HD HLL
  have hdc : (cellsB d).length = 16 := by rw [cellsB_length, HDL.out]
  have hall := all16 d
  clear hk
  go_enter Tryz.func140, Tryz.ntmps140
  go_wp2_with (first
    | (rw [HZ.out]; refine wpList_load_row rfl 24 (.tmp 1) rfl w.heap.size rfl 24 (cellsB k).toArray (0, 0) _ (blk_b0 w _ _ _) under_key rfl (cellsB_size _ HK.out) ?_)
    | (go_at_call 96; refine (HLT.out _).mono ?_; rintro e w1 ⟨⟨A1, c1, rfl, ho1⟩, hb1⟩; have HO1 := Lib.hid (ho1.br (by rw [HLL.out]; omega)); have b1 := bel_on b0 hb1; clear ho1)
    | (go_at_call 121; refine (HD.out _ _ _ HO1.out).mono ?_; rintro e w2 ⟨rfl, hb2⟩; have b2 := bel_on b1 hb2; have Q2 := (B1.out.below' hb1).below' hb2; have hr2 : (rowAt w2 (w.heap.size + 1)).size = 16 := (by rw [Q2.row]; rfl); have hf2 := Q2.free; have HQ2 := Lib.hid Q2; clear Q2))
  exact bodyPost_ret (results_cell_row rfl _ _ (w.heap.size + 1) _ _ (0, 0) _ rfl (HQ2.out.setRow (cellsB d).toArray) under_key rfl (cellsB_size _ HDL.out)) rfl ⟨rfl, below_setRow b2 (by omega) _⟩
end Go.Proofs.YtinpiodfpnbllaaGreatDoor

/- The program's text of a node, and its digest. -/
namespace Go.Proofs.YtinpiodfpnbllaaGreatDoor
open Go.RowKit
set_option linter.unusedVariables false
attribute [local go_sem] run_storeCells_key run_storeCells_new

theorem Blk.brn {w : World} {g : Nat} {t : TypeId} {l : List UInt8} (h : Blk w g t (cellsB l).toArray) {n : Nat} (hn : l.length = n) (hs : n ≤ 1000000) : BR w (some ⟨g, 0, none⟩) n l := by
  subst hn
  refine ⟨⟨by rw [cellsB_length, Nat.mul_one], Nat.le_refl _, by omega, by omega⟩, fun _ => ⟨g, 0, rfl, h.lt, fun j v hv => ?_⟩⟩
  rw [Nat.zero_add, h.cell j]
  simpa using hv

set_option maxHeartbeats 1000000 in
set_option maxRecDepth 100000 in
theorem nodeText_any (a b : List UInt8) (w : World) (ha : a.length = 16) (hb : b.length = 16) : Calls Tryz.prog 98 #[.agg (cellsB a).toArray, .agg (cellsB b).toArray] w fun e w' => (∃ A c, e = .returned (.slice A 33 c) ∧ OB w.heap.size w' A c (nodeX a b)) ∧ Below w.heap.size w w' := by
  have HA := Lib.hid ha
  have HB := Lib.hid hb
  have b0 := alloc2_bel w (.cells (cellsB a).toArray 24) (.cells (cellsB b).toArray 24)
  have B0 := Lib.hid (blk_b0 w (cellsB a).toArray 24 (.cells (cellsB b).toArray 24))
  have B1 := Lib.hid (blk_b1 w (.cells (cellsB a).toArray 24) (cellsB b).toArray 24)
  clear ha hb
  go_enter Tryz.func98, Tryz.ntmps98
  go_wp2_with fail
  obtain ⟨W0, hW0⟩ : ∃ W : World, W = (w.alloc (.cells (cellsB a).toArray 24)).alloc (.cells (cellsB b).toArray 24) := ⟨_, rfl⟩
  rw [← hW0] at b0 B0 B1 ⊢
  clear hW0
  refine wp_region_noPanic ?_
  refine wp_region_held_drew (S := fun _ => True) (by kernel_rfl) trivial (fun hS => ?_)
  refine hd_take 1 (.slice (some ⟨w.heap.size, 0, none⟩) 16 16) rfl rfl (by kernel_rfl) (by kernel_rfl) (by kernel_rfl) (fun _ _ _ h => h) (fun w _ => by go_simp) hS ?_
  refine hd_take 2 (.slice (some ⟨w.heap.size + 1, 0, none⟩) 16 16) rfl rfl (by kernel_rfl) (by kernel_rfl) (by kernel_rfl) (fun _ _ _ h => h) (fun w _ => by go_simp) hS ?_
  obtain ⟨g, hg⟩ : ∃ g, W0.drew.heap.size = g := ⟨_, rfl⟩
  have N1 : Blk (W0.drew.alloc (.cells (cellsB [1]).toArray 5)) g 5 (cellsB [1]).toArray := by rw [← hg]; exact Blk.new _ _ _
  have b1 := b0.drew.alloc b0.drew.size (.cells (cellsB [1]).toArray 5)
  have C0 := B0.out.drew.alloc (.cells (cellsB [1]).toArray 5)
  have C1 := B1.out.drew.alloc (.cells (cellsB [1]).toArray 5)
  refine hd_sole 0 (by kernel_rfl) (op_run (.slice (some ⟨g, 0, none⟩) 1 1) (W0.drew.alloc (.cells (cellsB [1]).toArray 5)) rfl rfl (by rw [← hg]; go_simp; try rfl) ⟨trivial, ?_⟩)
  generalize W0.drew.alloc (.cells (cellsB [1]).toArray 5) = W1 at N1 b1 C0 C1 ⊢
  simp only [List.getElem_toArray, List.getElem_cons_succ, List.getElem_cons_zero, Act.put, List.setIfInBounds_toArray, List.set_cons_zero, List.set_cons_succ]
  obtain ⟨g2, hg2⟩ : ∃ g2, W1.heap.size = g2 := ⟨_, rfl⟩
  obtain ⟨rs, hrs⟩ : ∃ rs : List BRow, rs = [⟨some ⟨g, 0, none⟩, 1, [1]⟩, ⟨some ⟨w.heap.size, 0, none⟩, 16, a⟩, ⟨some ⟨w.heap.size + 1, 0, none⟩, 16, b⟩] := ⟨_, rfl⟩
  have hcells : (rs.map BRow.v).toArray = #[.slice (some ⟨g, 0, none⟩) 1 1, .slice (some ⟨w.heap.size, 0, none⟩) 16 16, .slice (some ⟨w.heap.size + 1, 0, none⟩) 16 16] := by rw [hrs]; simp [BRow.v, HA.out, HB.out]
  have hrl : rs.length = 3 := by rw [hrs]; rfl
  have hcat : catL rs 3 = nodeX a b := by rw [hrs]; simp [catL, nodeX]
  have hnl : (nodeX a b).length = 33 := by simp [nodeX, HA.out, HB.out]
  have b2 := b1.alloc b1.size (.cells (rs.map BRow.v).toArray 22)
  have hRR : RR (W1.alloc (.cells (rs.map BRow.v).toArray 22)) (some ⟨g2, 0, none⟩) 3 rs := by
    refine ⟨⟨⟨by rw [List.length_map, Nat.mul_one], by omega, by omega, by omega⟩, fun _ => ⟨g2, 0, rfl, by rw [← hg2]; simp, fun j v hv => ?_⟩⟩, fun r hr => ?_⟩
    · rw [Nat.zero_add, ← hg2, (Blk.new W1 22 (rs.map BRow.v).toArray).cell j]
      simpa using hv
    · rw [hrs] at hr
      simp only [List.mem_cons, List.not_mem_nil, or_false] at hr
      rcases hr with rfl | rfl | rfl
      · exact (N1.alloc _).brn (n := 1) rfl (by omega)
      · exact (C0.alloc _).brn (n := 16) HA.out (by omega)
      · exact (C1.alloc _).brn (n := 16) HB.out (by omega)
  refine hd_sole 3 (by kernel_rfl) (op_run (.slice (some ⟨g2, 0, none⟩) 3 3) (W1.alloc (.cells (rs.map BRow.v).toArray 22)) rfl rfl (by rw [← hg2, hcells]; go_simp) ⟨trivial, ?_⟩)
  generalize W1.alloc (.cells (rs.map BRow.v).toArray 22) = W2 at b2 hRR ⊢
  simp only [List.getElem_toArray, List.getElem_cons_succ, List.getElem_cons_zero, Act.put, List.setIfInBounds_toArray, List.set_cons_zero, List.set_cons_succ]
  refine hd_calls 4 122 #[.slice (some ⟨g2, 0, none⟩) 3 3] rfl rfl (by kernel_rfl) (by go_simp) ((Concat_any (some ⟨g2, 0, none⟩) 3 rs W2 hrl hRR (N := 33) (by rw [hcat, hnl]) (by omega) (by omega)).mono ?_)
  rintro e w5 ⟨⟨A5, c5, rfl, ho5⟩, hb5⟩
  rw [hcat] at ho5
  refine ⟨_, rfl, trivial, ?_⟩
  refine hd_take 5 (.slice A5 33 c5) rfl rfl (by kernel_rfl) (by kernel_rfl) (by kernel_rfl) (fun _ _ _ h => h) (fun w _ => by go_simp) trivial ?_
  refine wpAnyH_done (by kernel_rfl) (NoPanic.normal ?_) _
  simp only [List.getElem_toArray, List.getElem_cons_succ, List.getElem_cons_zero, Act.put, List.setIfInBounds_toArray, List.set_cons_zero, List.set_cons_succ]
  have HO5 := Lib.hid (OB.le_ (B' := w.heap.size) ho5 b2.size)
  have bF := bel_on b2 hb5
  clear ho5
  go_wp2_with fail
  go_ret
  exact ⟨⟨A5, c5, rfl, HO5.out⟩, bF⟩
end Go.Proofs.YtinpiodfpnbllaaGreatDoor

/- A region that draws its order, whose operations only read but for one that waits for all the others (a store at the end): one walk of the text's order, then the last one. -/
namespace Go.Proofs.YtinpiodfpnbllaaGreatDoor
open Go.RowKit
set_option linter.unusedVariables false

section
variable {P : Program} {ops : Array Oper} {md : Region.Mode} {C : World → Prop}

/-- Operation m waits for each other one that has not come up yet. -/
def waitsAll (md : Region.Mode) (ops : Array Oper) (m : Nat) (listed : Array Bool) : Prop := ∀ s, ops[m]? = some s → ∀ k, k ≠ m → listed.getD k true = false → ∃ e ∈ s.after, Region.binds md e = true ∧ e.on = k
def waitsAllB (md : Region.Mode) (ops : Array Oper) (m : Nat) (listed : Array Bool) : Bool := match ops[m]? with
  | none => true
  | some s => (List.range listed.size).all fun k => k == m || listed.getD k true || s.after.any fun e => Region.binds md e && e.on == k
theorem waitsAll_of {m : Nat} {listed : Array Bool} (h : waitsAllB md ops m listed = true) : waitsAll md ops m listed := by
  intro s hs k hk hl
  unfold waitsAllB at h
  rw [hs] at h
  have hlt : k < listed.size := by
    rcases Nat.lt_or_ge k listed.size with h' | h'
    · exact h'
    · simp [Array.getD, Nat.not_lt.2 h'] at hl
  have := List.all_eq_true.1 h k (List.mem_range.2 hlt)
  rw [hl] at this
  simp only [Bool.or_false, Bool.or_eq_true, beq_iff_eq] at this
  rcases this with h1 | h1
  · exact absurd h1 hk
  · obtain ⟨e, he, h2⟩ := Array.any_eq_true'.1 h1
    simp only [Bool.and_eq_true, beq_iff_eq] at h2
    exact ⟨e, he, h2.1, h2.2⟩
theorem waitsAll.set {m : Nat} {listed : Array Bool} (h : waitsAll md ops m listed) (j : Nat) : waitsAll md ops m (listed.setIfInBounds j true) := by
  intro s hs k hk hl
  refine h s hs k hk ?_
  by_cases hjk : j = k
  · subst hjk
    rcases Nat.lt_or_ge j listed.size with h' | h'
    · simp [Array.getD, h'] at hl
    · simp [Array.getD, Nat.not_lt.2 h'] at hl
  · rw [getD_set_ne true hjk] at hl; exact hl

/-- Whatever order is picked, up to the last one. -/
def wpAnyE (P : Program) (md : Region.Mode) (ops : Array Oper) (C : World → Prop) (m : Nat) (Q : Act → Prop) : Nat → Array Bool → Act → Prop
  | 0, _, _ => False
  | fuel + 1, listed, a => Region.ready md ops listed ≠ [] ∧ ∀ i ∈ Region.ready md ops listed, if i = m then Q a else qOp P ops C i (wpAnyE P md ops C m Q fuel (listed.setIfInBounds i true)) a

theorem ready_done {m : Nat} {listed : Array Bool} (hm : m ∈ Region.ready md ops listed) (hw : waitsAll md ops m listed) : Region.ready md ops (listed.setIfInBounds m true) = [] := by
  apply List.eq_nil_iff_forall_not_mem.2
  intro i hi
  obtain ⟨hun, oi, hoi, _⟩ := mem_ready.1 hi
  obtain ⟨hmun, om, hom, hall⟩ := mem_ready.1 hm
  by_cases him : i = m
  · subst him
    rcases Nat.lt_or_ge i listed.size with h' | h'
    · simp [Array.getD, h'] at hun
    · simp [Array.getD, Nat.not_lt.2 h'] at hun
  · rw [getD_set_ne true (Ne.symm him)] at hun
    obtain ⟨e, he, hb, hon⟩ := hw om hom i him hun
    have h1 := hall e he hb
    rw [hon] at h1
    rcases Nat.lt_or_ge i listed.size with h' | h'
    · simp [Array.getD, h'] at hun h1
      rw [hun] at h1; cases h1
    · simp [Array.getD, Nat.not_lt.2 h'] at hun

theorem wpAny_of_end {m : Nat} {Q : Act → Prop} {Q' : Exit → Act → World → Prop} (hQ : ∀ a w, C w → Q a → wpOp P ops Q' m (fun a' w' => Q' .normal a' w') a w) : ∀ (fuel : Nat) (listed : Array Bool) (a : Act) (w : World), C w → waitsAll md ops m listed →
    wpAnyE P md ops C m Q fuel listed a → wpAny P md ops Q' fuel listed a w
  | 0, _, _, _, _, _, h => h.elim
  | fuel + 1, listed, a, w, hw, hI, h => ⟨fun h0 => absurd h0 h.1, fun i hi => by
    have h2 := h.2 i hi
    by_cases him : i = m
    · subst him
      rw [if_pos rfl] at h2
      have h3 := hQ a w hw h2
      have hd := ready_done hi hI
      have hk : ∀ a' w', Q' .normal a' w' → wpAny P md ops Q' fuel (listed.setIfInBounds i true) a' w' := fun a' w' hq => by
        cases fuel with
        | zero => exact ⟨hd, hq⟩
        | succ f => exact ⟨fun _ => hq, fun j hj => by rw [hd] at hj; cases hj⟩
      unfold wpOp at h3 ⊢
      split
      · rename_i ho; simp only [ho] at h3; exact hk _ _ h3
      · rename_i o ho
        simp only [ho] at h3
        split
        · rename_i hwt; simp only [hwt, if_true] at h3; exact h3.imp (Oper.wp_mono hk) id
        · rename_i hwt; simp only [hwt] at h3; exact hk _ _ h3
    · rw [if_neg him] at h2
      exact wpOp_of_qOp hw (fun a' w' hw' => wpAny_of_end hQ fuel _ a' w' hw' (hI.set i)) h2⟩

theorem wpAnyE_first {m : Nat} {Q : Act → Prop} {i : Nat} {oi : Oper} {v : Value} (him : i ≠ m) (hi : ops[i]? = some oi) (hsel : ∀ (j : Nat) (o : Oper) cs b, ops[j]? = some o → o.op ≠ .select cs b) :
    ∀ (fuel : Nat) (listed : Array Bool) (a : Act), waitsAll md ops m listed →
      (∀ j oj, ops[j]? = some oj → j ≠ i → listed.getD j true = false → (∀ e ∈ oj.after, Region.binds md e = true → e.on ≠ i) → oi.apart ops oj = true) →
      i ∈ Region.ready md ops listed → YieldsIn P ops C oi v a →
      wpAnyE P md ops C m Q fuel (listed.setIfInBounds i true) (a.put oi.dst v) → wpAnyE P md ops C m Q (fuel + 1) listed a := by
  intro fuel
  induction fuel with
  | zero => intro listed a _ _ _ _ H; exact H.elim
  | succ fuel ih =>
    intro listed a hI hfree hr hy H
    refine ⟨fun h => (by rw [h] at hr; cases hr), fun j hj => ?_⟩
    by_cases hji : j = i
    · subst hji; rw [if_neg him]; exact hy.qOp hi H
    · have h1 := H.2 j (ready_mono hj hji)
      obtain ⟨hjun, oj, hoj, hall⟩ := mem_ready.1 hj
      have hnot : ∀ e ∈ oj.after, Region.binds md e = true → e.on ≠ i := fun e he hb heq => by
        have h1 := hall e he hb
        have h0 := (mem_ready.1 hr).1
        rw [heq] at h1
        rcases Nat.lt_or_ge i listed.size with h' | h'
        · simp [h'] at h0 h1; rw [h0] at h1; cases h1
        · simp [Array.getElem?_eq_none h'] at h1
      by_cases hjm : j = m
      · subst hjm
        obtain ⟨e, he, hb, hon⟩ := hI oj hoj i him (mem_ready.1 hr).1
        exact absurd hon (hnot e he hb)
      · rw [if_neg hjm] at h1 ⊢
        have h2 := qOp_put hoj (hfree j oj hoj hji hjun hnot) (fun cs b => hsel i oi cs b hi) (fun cs b => hsel j oj cs b hoj) hy h1
        have hfree' : ∀ k ok, ops[k]? = some ok → k ≠ i → (listed.setIfInBounds j true).getD k true = false →
            (∀ e ∈ ok.after, Region.binds md e = true → e.on ≠ i) → oi.apart ops ok = true := fun k ok hk hki hun hno => by
          refine hfree k ok hk hki ?_ hno
          by_cases hjk : j = k
          · subst hjk; exact hjun
          · rw [getD_set_ne true hjk] at hun; exact hun
        refine qOp_mono (fun a' h3 => ih (listed.setIfInBounds j true) a' (hI.set j) hfree' (ready_mono hr (Ne.symm hji)) h3.1 ?_) h2
        rw [Array.setIfInBounds_comm _ _ hji]
        exact h3.2

/-- The text's order, up to the last one, by a Bool. -/
def lexTo (md : Region.Mode) (ops : Array Oper) (m : Nat) : Nat → Nat → Array Bool → Bool
  | 0, _, listed => (Region.ready md ops listed) == [m]
  | fuel + 1, k, listed => k != m && (Region.ready md ops listed).contains k && Region.free md ops listed k && lexTo md ops m fuel (k + 1) (listed.setIfInBounds k true)

theorem wpAnyE_lex {m : Nat} {Q : Act → Prop} (hs : Region.noSelect ops = true) : ∀ (l : List Oper) (k : Nat) (listed : Array Bool) (a : Act), (∀ j, j < l.length → l[j]? = ops[k + j]?) → waitsAll md ops m listed →
    lexTo md ops m l.length k listed = true → wpQuiet P ops C Q l a → wpAnyE P md ops C m Q (l.length + 1) listed a
  | [], _, listed, _, _, _, hB, h => by
    have hr : Region.ready md ops listed = [m] := by simpa [lexTo] using hB
    exact ⟨by rw [hr]; simp, fun i hi => by rw [hr, List.mem_singleton] at hi; rw [if_pos hi]; exact h⟩
  | o :: l, k, listed, a, hl, hI, hB, h => by
    have h0 : ops[k]? = some o := by simpa using (hl 0 (by simp)).symm
    simp only [List.length_cons, lexTo, Bool.and_eq_true, bne_iff_ne, ne_eq] at hB
    obtain ⟨⟨⟨hkm, hr⟩, hf⟩, hB'⟩ := hB
    have hst : qOp P ops C k (wpQuiet P ops C Q l) a := by unfold qOp; simp only [h0]; exact h
    obtain ⟨v, hy, hK⟩ := yieldsIn_of_qOp h0 hst
    exact wpAnyE_first hkm h0 (Region.noSelect_spec hs) (l.length + 1) listed a hI (Region.free_spec h0 hf) (by simpa using hr) hy
      (wpAnyE_lex hs l (k + 1) _ _ (fun j hj => by have := hl (j + 1) (by simp; omega); simpa [Nat.add_assoc, Nat.add_comm 1 j] using this) (hI.set k) hB' hK)

/-- From a state in which some have come up already: the text's order up to operation m, then m. -/
theorem wpAny_end {m : Nat} {Q' : Exit → Act → World → Prop} {listed : Array Bool} {a : Act} {w : World} (l : List Oper) {fuel : Nat} (hf : fuel = l.length + 1) (hs : Region.noSelect ops = true) (hl : ops.toList.take l.length = l) (hI : waitsAllB md ops m listed = true) (hB : lexTo md ops m l.length 0 listed = true) (hC : C w)
    (h : wpQuiet P ops C (fun a' => ∀ w', C w' → wpOp P ops Q' m (fun a'' w'' => Q' .normal a'' w'') a' w') l a) : wpAny P md ops Q' fuel listed a w := by
  subst hf
  refine wpAny_of_end (fun a w hw hq => hq w hw) _ _ _ _ hC (waitsAll_of hI) (wpAnyE_lex hs l 0 listed a (fun j hj => ?_) (waitsAll_of hI) hB h)
  rw [Nat.zero_add, ← Array.getElem?_toList, ← hl, List.getElem?_take]
  have hj' := hj
  rw [← hl, List.length_take] at hj'
  simp [hj]
theorem wpOp_of_wp {Q : Exit → Act → World → Prop} {m : Nat} {o : Oper} {K : Act → World → Prop} {a : Act} {w : World} (ho : ops[m]? = some o) (hg : o.guard = none) (h : o.wp P a w K Q) : wpOp P ops Q m K a w := by
  unfold wpOp
  have hw : Region.wanted o (yielded ops a.tmps) = true := by simp [Region.wanted, hg]
  simp only [ho, hw, if_true]
  exact .inl h
/-- The last operation waits for all the others. -/
theorem wp_region_last {id : Nat} (m : Nat) {Q : Exit → Act → World → Prop} {a : Act} {w : World} (hm : P.follows .mixedOrders = true) (hsz : ops.size = m + 1) (hs : Region.noSelect ops = true) (hI : waitsAllB .any ops m (Array.replicate ops.size false) = true) (hB : lexTo .any ops m m 0 (Array.replicate ops.size false) = true) (hC : C w.drew)
    (h : wpQuiet P ops C (fun a' => ∀ w', C w' → wpOp P ops Q m (fun a'' w'' => Q .normal a'' w'') a' w') (ops.toList.take m) a) : (Code.region id ops true).wp P Q a w := by
  have hl : (ops.toList.take m).length = m := by rw [List.length_take, Array.length_toList, hsz]; omega
  exact wp_region_any hm (wpAny_end (C := C) (m := m) (ops.toList.take m) (by rw [hl, hsz]) hs (by rw [hl]) hI (by rw [hl]; exact hB) hC h)
theorem wpOp_store {Q : Exit → Act → World → Prop} {m : Nat} {o : Oper} {K : Act → World → Prop} {a : Act} {w : World} (g : Nat) (cells : Array Value) (ty : TypeId) (x y : Operand) (hi : ops[m]? = some o) (ho : o.op = .store ty x y) (hg : o.guard = none)
    (hx : a.eval x = .pointer (some ⟨g, 0, none⟩)) (hy : a.eval y = .agg cells) {t : TypeId} {old : Array Value} (hb : w.heap[g]? = some (.cells old t (0, 0))) (hn : (P.info? ty).map (·.size) = some cells.size) (hold : old.size = cells.size) (h1 : cells.all (·.oneCell') = true)
    (h : K (a.put o.dst undef) (w.setRow g cells)) : wpOp P ops Q m K a w :=
  wpOp_of_wp hi hg (wp_store_row ty x y ho g cells hx hy t old hb hn hold h1 h)
end
end Go.Proofs.YtinpiodfpnbllaaGreatDoor

/- The reference's Pad. -/
namespace Go.Proofs.YtinpiodfpnbllaaGreatDoor
open Go.RowKit
set_option linter.unusedVariables false

def lenW : Value → Nat
  | .slice _ n _ => n
  | _ => 0
end Go.Proofs.YtinpiodfpnbllaaGreatDoor

/- The reference's Digest. -/
namespace Go.Proofs.YtinpiodfpnbllaaGreatDoor
open Go.RowKit
set_option linter.unusedVariables false
attribute [local go_sem] run_storeCells_key

theorem OB.lowR {B : Nat} {w : World} {A : Option Addr} {c : Nat} {l : List UInt8} (h : OB B w A c l) {g : Nat} (hg : g < B) (cs : Array Value) : OB B (w.setRow g cs) A c l :=
  ⟨h.1, h.2.elim Or.inl (fun ⟨g', cap, cur, hv, hB, hh, r⟩ => Or.inr ⟨g', cap, cur, hv, hB, by rw [← hh]; exact setRow_other w g g' cs (by omega), r⟩)⟩
theorem saltJ_zero : saltJ 0 = zeroK := rfl
theorem saltJ_full : saltJ 16 = salt := rfl

end Go.Proofs.YtinpiodfpnbllaaGreatDoor

/- Commitments: the program's and the reference's. -/
namespace Go.Proofs.YtinpiodfpnbllaaGreatDoor
open Go.RowKit
set_option linter.unusedVariables false
set_option linter.unusedSimpArgs false
attribute [local go_sem] run_storeCells_key run_storeCells_new

/-- The text of an opening. -/
def openT (half nonce : List UInt8) : List UInt8 := [2] ++ nonce ++ half
theorem openT_length (half nonce : List UInt8) (h : nonce.length = 16) : (openT half nonce).length = half.length + 17 := by simp [openT, h]; omega
theorem digS_16 (b : List UInt8) : (digS b).length = 16 := digS_length b
/-- A commitment, or the error. -/
def cmS (half nonce : List UInt8) : List UInt8 × Int := if halfB half 1 = true then (digS (openT half nonce), 0) else (zeroK, 2)
theorem cmS_length (half nonce : List UInt8) : (cmS half nonce).1.length = 16 := by
  unfold cmS
  split
  · exact digS_length _
  · rfl

set_option maxHeartbeats 4000000 in
set_option maxRecDepth 100000 in
theorem commit_any (half nonce : List UInt8) (A : Option Addr) (c : Nat) (w : World) {n : Nat} (hn : half.length = n) (hs : n ≤ 1000) (hk : nonce.length = 16) (h : BR w A c half) :
    Calls Tryz.prog 62 #[.slice A n c, .agg (cellsB nonce).toArray] w fun e w' => e = .returned (.agg (cellsB (digS (openT half nonce))).toArray) ∧ Below w.heap.size w w' := by
  have HZ := Lib.hid zero16
  have HK := Lib.hid hk
  have b0 := alloc2_bel w (.cells (cellsB nonce).toArray 24) (.cells (cellsB zeroK).toArray 24)
  have C0 := Lib.hid (blk_b0 w (cellsB nonce).toArray 24 (.cells (cellsB zeroK).toArray 24))
  have Z0 := Lib.hid (blk_b1 w (.cells (cellsB nonce).toArray 24) (cellsB zeroK).toArray 24)
  obtain ⟨W0, hW0⟩ : ∃ W, W = (w.alloc (.cells (cellsB nonce).toArray 24)).alloc (.cells (cellsB zeroK).toArray 24) := ⟨_, rfl⟩
  have hz0 : W0.heap.size = w.heap.size + 1 + 1 := by rw [hW0]; simp
  have HC : Hid (Calls Tryz.prog 122 #[.slice (some ⟨w.heap.size + 1 + 1 + 1, 0, none⟩) 3 3] ((W0.alloc (.cells #[.int .u8 2] 5)).alloc (.cells #[.slice (some ⟨w.heap.size + 1 + 1, 0, none⟩) 1 1, .slice (some ⟨w.heap.size, 0, none⟩) 16 16, .slice A n c] 22)) fun e w' => (∃ X x, e = .returned (.slice X (n + 17) x) ∧ BR w' X x (openT half nonce)) ∧ Below W0.heap.size W0 w') := by
    rw [← hW0] at b0 C0 Z0
    obtain ⟨rs, hrs⟩ : ∃ rs : List BRow, rs = [⟨some ⟨w.heap.size + 1 + 1, 0, none⟩, 1, [2]⟩, ⟨some ⟨w.heap.size, 0, none⟩, 16, nonce⟩, ⟨A, c, half⟩] := ⟨_, rfl⟩
    have hrl : rs.length = 3 := by rw [hrs]; rfl
    have hcat : catL rs 3 = openT half nonce := by rw [hrs]; simp [catL, openT]
    have hcells : (rs.map BRow.v).toArray = #[.slice (some ⟨w.heap.size + 1 + 1, 0, none⟩) 1 1, .slice (some ⟨w.heap.size, 0, none⟩) 16 16, .slice A n c] := by rw [hrs]; simp [BRow.v, hn, hk]
    rw [← hcells]
    have N1 : Blk (W0.alloc (.cells #[.int .u8 2] 5)) (w.heap.size + 1 + 1) 5 (cellsB [2]).toArray := by rw [← hz0]; exact Blk.new W0 _ _
    have N2 : Blk ((W0.alloc (.cells #[.int .u8 2] 5)).alloc (.cells (rs.map BRow.v).toArray 22)) (w.heap.size + 1 + 1 + 1) 22 (rs.map BRow.v).toArray := by
      have := Blk.new (W0.alloc (.cells #[.int .u8 2] 5)) 22 (rs.map BRow.v).toArray
      rwa [show (W0.alloc (.cells #[.int .u8 2] 5)).heap.size = w.heap.size + 1 + 1 + 1 from by simp [hz0]] at this
    have bb := alloc2_bel W0 (.cells #[.int .u8 2] 5) (.cells (rs.map BRow.v).toArray 22)
    have hRR : RR ((W0.alloc (.cells #[.int .u8 2] 5)).alloc (.cells (rs.map BRow.v).toArray 22)) (some ⟨w.heap.size + 1 + 1 + 1, 0, none⟩) 3 rs := by
      refine ⟨⟨⟨by rw [List.length_map, Nat.mul_one], by omega, by omega, by omega⟩, fun _ => ⟨w.heap.size + 1 + 1 + 1, 0, rfl, N2.lt, fun j v hv => ?_⟩⟩, fun r hr => ?_⟩
      · rw [Nat.zero_add, N2.cell j]
        simpa using hv
      · rw [hrs] at hr
        simp only [List.mem_cons, List.not_mem_nil, or_false] at hr
        rcases hr with rfl | rfl | rfl
        · exact (N1.alloc _).brn (n := 1) rfl (by omega)
        · exact (C0.out.below' bb).brn (n := 16) hk (by omega)
        · exact (h.below b0).below bb
    refine (Concat_any (some ⟨w.heap.size + 1 + 1 + 1, 0, none⟩) 3 rs _ hrl hRR (N := n + 17) (by rw [hcat, openT_length _ _ hk, hn]) (by omega) (by omega)).mono ?_
    rintro e w5 ⟨⟨A5, c5, rfl, ho5⟩, hb5⟩
    rw [hcat] at ho5
    exact ⟨⟨A5, c5, rfl, ho5.br (by rw [openT_length _ _ hk]; omega)⟩, bel_on bb hb5⟩
  have HD : Hid (∀ X x W, BR W X x (openT half nonce) → Calls Tryz.prog 121 #[.slice X (n + 17) x] W fun e w' => e = .returned (.agg (cellsB (digS (openT half nonce))).toArray) ∧ Below W.heap.size W w') := fun X x W hX => digest_any (openT half nonce) X x W (by rw [openT_length _ _ hk, hn]) hX (by omega)
  have HDL := Lib.hid (digS_length (openT half nonce))
  generalize digS (openT half nonce) = d at HD HDL ⊢
  have hdc : (cellsB d).length = 16 := by rw [cellsB_length, HDL.out]
  have hall := all16 d
  have HW0 := Lib.hid hW0
  rw [← hW0] at b0 C0 Z0
  clear hn hs hk h hW0 hz0
  go_enter Tryz.func62, Tryz.ntmps62
  go_wp2_with (first
    | (go_at_call 122; rw [HZ.out, ← HW0.out]; refine HC.out.mono ?_; rintro e w3 ⟨⟨X, x, rfl, hx⟩, hb3⟩; have HX := Lib.hid hx; have B3 := bel_on b0 hb3; have Z3 := Lib.hid (Z0.out.below' hb3); clear hx hb3)
    | (go_at_call 121; refine (HD.out _ _ _ HX.out).mono ?_; rintro e w4 ⟨rfl, hb4⟩; have B4 := bel_on B3 hb4; have Q4 := Z3.out.below' hb4; have hr1 : (rowAt w4 (w.heap.size + 1)).size = 16 := (by rw [Q4.row]; rfl); have hf1 := Q4.free; have HQ4 := Lib.hid Q4; clear Q4 hb4))
  exact bodyPost_ret (results_cell_row rfl _ _ (w.heap.size + 1) _ _ (0, 0) _ rfl (HQ4.out.setRow (cellsB d).toArray) under_key rfl (cellsB_size _ HDL.out)) rfl ⟨rfl, below_setRow B4 (by omega) _⟩

set_option maxHeartbeats 4000000 in
set_option maxRecDepth 100000 in
theorem Commit_any (half nonce : List UInt8) (A : Option Addr) (c : Nat) (w : World) {n : Nat} (hn : half.length = n) (hk : nonce.length = 16) (h : BR w A c half) :
    Calls Tryz.prog 18 #[.slice A n c, .agg (cellsB nonce).toArray] w fun e w' => e = .returned (.tuple #[.agg (cellsB (cmS half nonce).1).toArray, .int .i64 (cmS half nonce).2]) ∧ Below w.heap.size w w' := by
  have HZ := Lib.hid zero16
  have HK := Lib.hid hk
  have b0 := alloc2_bel w (.cells (cellsB nonce).toArray 24) (.cells (cellsB zeroK).toArray 24)
  have C0 := Lib.hid (blk_b0 w (cellsB nonce).toArray 24 (.cells (cellsB zeroK).toArray 24))
  have Z0 := Lib.hid (blk_b1 w (.cells (cellsB nonce).toArray 24) (cellsB zeroK).toArray 24)
  have HS1 : Hid (∀ W, Below w.heap.size w W → Calls Tryz.prog 61 #[.slice A n c, .int .u8 1] W fun e w' => e = .returned (.bool (halfB half 1)) ∧ W = w') := fun W hW => auditSyms_any A c half 1 W hn (h.below hW) (by omega)
  cases hv : halfB half 1 with
  | false =>
    have HS : Hid (cmS half nonce = (zeroK, 2)) := by unfold Hid cmS; rw [hv]; rfl
    rw [hv] at HS1
    have hdc : (cellsB zeroK).length = 16 := rfl
    have hall := all16 zeroK
    have Q1 := Z0.out
    have hr1 : (rowAt ((w.alloc (.cells (cellsB nonce).toArray 24)).alloc (.cells (cellsB zeroK).toArray 24)) (w.heap.size + 1)).size = 16 := by rw [Q1.row]; rfl
    have hf1 := Q1.free
    clear hn hk h hv Q1
    go_enter Tryz.func18, Tryz.ntmps18
    go_wp2_with (first
      | (go_at_call 61; rw [HZ.out]; refine (HS1.out _ b0).mono ?_; rintro e w1 ⟨rfl, rfl⟩)
      | ((first | rw [HZ.out] | skip); refine wpList_buildTo rfl 24 #[] rfl (some 9) rfl (cellsB zeroK).toArray (by kernel_rfl) ?_))
    refine bodyPost_ret (v := .tuple #[.agg (cellsB zeroK).toArray, .int .i64 2]) ?_ rfl ⟨by rw [HS.out], below_setRow b0 (by omega) _⟩
    rw [results_cell_tmp Tryz.results18]
    simp [asAddr, Result.andThen, run_loadVar_row _ (w.heap.size + 1) _ _ _ (0, 0) _ (Z0.out.setRow (cellsB zeroK).toArray) under_key rfl (cellsB_size _ rfl)]
  | true =>
    have hl : n ≤ 64 := by rw [← hn]; exact (halfB_iff.1 hv).1.2
    have HS : Hid (cmS half nonce = (digS (openT half nonce), 0)) := by unfold Hid cmS; rw [if_pos hv]
    rw [hv] at HS1
    have HD : Hid (∀ W, Below w.heap.size w W → Calls Tryz.prog 62 #[.slice A n c, .agg (cellsB nonce).toArray] W fun e w' => e = .returned (.agg (cellsB (digS (openT half nonce))).toArray) ∧ Below W.heap.size W w') := fun W hW => commit_any half nonce A c W hn (by omega) hk (h.below hW)
    have HDL := Lib.hid (digS_length (openT half nonce))
    generalize digS (openT half nonce) = d at HD HDL HS
    have hdc : (cellsB d).length = 16 := by rw [cellsB_length, HDL.out]
    have hall := all16 d
    clear hn hk h hv hl
    go_enter Tryz.func18, Tryz.ntmps18
    go_wp2_with (first
      | (go_at_call 61; rw [HZ.out]; refine (HS1.out _ b0).mono ?_; rintro e w1 ⟨rfl, rfl⟩)
      | ((first | rw [HZ.out] | skip); refine wpList_load_row rfl 24 (.tmp 3) rfl w.heap.size rfl 24 (cellsB nonce).toArray (0, 0) _ C0.out under_key rfl (cellsB_size _ HK.out) ?_)
      | (go_at_call 62; refine (HD.out _ b0).mono ?_; rintro e w2 ⟨rfl, hb2⟩; have b2 := bel_on b0 hb2; have Q2 := Z0.out.below' hb2; have hr1 : (rowAt w2 (w.heap.size + 1)).size = 16 := (by rw [Q2.row]; rfl); have hf1 := Q2.free; have HQ2 := Lib.hid Q2; clear Q2 hb2))
    refine bodyPost_ret (v := .tuple #[.agg (cellsB d).toArray, .int .i64 0]) ?_ rfl ⟨by rw [HS.out], below_setRow b2 (by omega) _⟩
    rw [results_cell_tmp Tryz.results18]
    simp [asAddr, Result.andThen, run_loadVar_row _ (w.heap.size + 1) _ _ _ (0, 0) _ (HQ2.out.setRow (cellsB d).toArray) under_key rfl (cellsB_size _ HDL.out)]

end Go.Proofs.YtinpiodfpnbllaaGreatDoor

/- Revocation lists in plain words: validity, merging, pruning. -/
namespace Go.Proofs.YtinpiodfpnbllaaGreatDoor
set_option linter.unusedVariables false

abbrev Ent := Int × Int
def okE (x : Ent) : Bool := decide (0 ≤ x.1) && (decide (x.1 < 64) && (decide (0 ≤ x.2) && decide (x.2 ≤ 1099511627776)))
theorem okE_iff {x : Ent} : okE x = true ↔ 0 ≤ x.1 ∧ x.1 < 64 ∧ 0 ≤ x.2 ∧ x.2 ≤ 1099511627776 := by simp [okE]
/-- Receivers that rise, from p on. -/
def upE : Int → List Ent → Bool
  | _, [] => true
  | p, x :: l => decide (p < x.1) && upE x.1 l
def validL (l : List Ent) : Bool := l.all okE && upE (-1) l
def untilS : List Ent → Int → Int
  | [], _ => -1
  | x :: l, u => if x.1 = u then x.2 else untilS l u
def mergeS (a b : List Ent) : List Ent := (List.range 64).filterMap fun (u : Nat) => if 0 ≤ max (untilS a (u : Int)) (untilS b (u : Int)) then some ((u : Int), max (untilS a (u : Int)) (untilS b (u : Int))) else none
def pruneS (l : List Ent) (e : Int) : List Ent := l.filter fun x => decide (e ≤ x.2)
def compGo : Int → List Ent → List Ent
  | _, [] => []
  | p, x :: l => if x.1 = p then compGo p l else x :: compGo x.1 l
/-- Of each run of entries with one receiver the first. -/
def compE : List Ent → List Ent
  | [] => []
  | x :: l => x :: compGo x.1 l

theorem upE_weak {p q : Int} (h : q ≤ p) {l : List Ent} (hl : upE p l = true) : upE q l = true := by
  cases l with
  | nil => rfl
  | cons x l =>
    simp only [upE, Bool.and_eq_true, decide_eq_true_eq] at hl ⊢
    exact ⟨by omega, hl.2⟩
theorem upE_mem {p : Int} {l : List Ent} (h : upE p l = true) : ∀ x ∈ l, p < x.1 := by
  induction l generalizing p with
  | nil => simp
  | cons y l ih =>
    simp only [upE, Bool.and_eq_true, decide_eq_true_eq] at h
    intro x hx
    rcases List.mem_cons.1 hx with rfl | hx
    · exact h.1
    · have := ih h.2 x hx; omega
theorem upE_of {p : Int} {l : List Ent} (hp : l.Pairwise fun x y => x.1 < y.1) (h : ∀ x ∈ l, p < x.1) : upE p l = true := by
  induction l generalizing p with
  | nil => rfl
  | cons y l ih =>
    rw [List.pairwise_cons] at hp
    simp only [upE, Bool.and_eq_true, decide_eq_true_eq]
    exact ⟨h y List.mem_cons_self, ih hp.2 hp.1⟩
theorem upE_pair {p : Int} {l : List Ent} (h : upE p l = true) : l.Pairwise fun x y => x.1 < y.1 := by
  induction l generalizing p with
  | nil => exact .nil
  | cons y l ih =>
    simp only [upE, Bool.and_eq_true, decide_eq_true_eq] at h
    exact List.pairwise_cons.2 ⟨upE_mem h.2, ih h.2⟩
theorem validL_iff {l : List Ent} : validL l = true ↔ (∀ x ∈ l, okE x = true) ∧ l.Pairwise fun x y => x.1 < y.1 := by
  unfold validL
  rw [Bool.and_eq_true, List.all_eq_true]
  constructor
  · exact fun h => ⟨h.1, upE_pair h.2⟩
  · exact fun h => ⟨h.1, upE_of h.2 fun x hx => by have := okE_iff.1 (h.1 x hx); omega⟩
theorem validL_nil : validL [] = true := rfl
theorem validL_take {l : List Ent} (h : validL l = true) (i : Nat) : validL (l.take i) = true := by
  rw [validL_iff] at h ⊢
  exact ⟨fun x hx => h.1 x (List.mem_of_mem_take hx), h.2.sublist (List.take_sublist _ _)⟩
theorem pairwise_snoc {α : Type} {R : α → α → Prop} {l : List α} {x : α} : (l ++ [x]).Pairwise R ↔ l.Pairwise R ∧ ∀ y ∈ l, R y x := by
  rw [List.pairwise_append]
  constructor
  · exact fun h => ⟨h.1, fun y hy => h.2.2 y hy x (by simp)⟩
  · exact fun h => ⟨h.1, List.pairwise_singleton _ _, fun y hy z hz => by rw [List.mem_singleton.1 hz]; exact h.2 y hy⟩
/-- One entry more is looked at. -/
theorem validL_step {l : List Ent} {i : Nat} (hi : i < l.length) (h : validL (l.take i) = true) :
    validL (l.take (i + 1)) = (okE l[i] && (decide (i = 0) || decide ((l.getD (i - 1) (0, 0)).1 < l[i].1))) := by
  rw [Bool.eq_iff_iff, List.take_succ_eq_append_getElem hi, validL_iff, Bool.and_eq_true, Bool.or_eq_true, decide_eq_true_eq, decide_eq_true_eq, pairwise_snoc]
  have hv := validL_iff.1 h
  constructor
  · rintro ⟨h1, h2, h3⟩
    refine ⟨h1 _ (List.mem_append_right _ List.mem_cons_self), ?_⟩
    rcases Nat.eq_zero_or_pos i with h0 | h0
    · exact .inl h0
    · right
      refine h3 _ ?_
      rw [List.getD_eq_getElem?_getD, List.getElem?_eq_getElem (by omega)]
      exact List.mem_take_iff_getElem.2 ⟨i - 1, by omega, rfl⟩
  · rintro ⟨h1, h2⟩
    refine ⟨fun x hx => ?_, hv.2, fun y hy => ?_⟩
    · rcases List.mem_append.1 hx with hx | hx
      · exact hv.1 x hx
      · rw [List.mem_singleton.1 hx]; exact h1
    · rcases h2 with h2 | h2
      · subst h2; simp at hy
      · obtain ⟨j, hj, rfl⟩ := List.mem_take_iff_getElem.1 hy
        rw [List.getD_eq_getElem?_getD, List.getElem?_eq_getElem (by omega)] at h2
        have h2' : (l[i - 1]'(by omega)).1 < l[i].1 := h2
        by_cases hji : j = i - 1
        · subst hji; exact h2'
        · have := List.pairwise_iff_getElem.1 hv.2 j (i - 1) (by simp; omega) (by simp; omega) (by omega)
          simp only [List.getElem_take] at this
          omega
theorem validL_bad {l : List Ent} {i : Nat} (h : validL (l.take i) = false) : validL l = false := by
  cases hv : validL l with
  | false => rfl
  | true => rw [validL_take hv i] at h; cases h

/-- Two rising lists with the same entries are the same. -/
theorem same_of_mem : ∀ {a b : List Ent}, a.Pairwise (fun x y => x.1 < y.1) → b.Pairwise (fun x y => x.1 < y.1) → (∀ x, x ∈ a ↔ x ∈ b) → a = b := by
  intro a
  induction a with
  | nil =>
    intro b _ _ h
    cases b with
    | nil => rfl
    | cons y b => have := (h y).2 List.mem_cons_self; cases this
  | cons x a ih =>
    intro b ha hb h
    cases b with
    | nil => have := (h x).1 List.mem_cons_self; cases this
    | cons y b =>
      rw [List.pairwise_cons] at ha hb
      have e : x = y := by
        rcases List.mem_cons.1 ((h x).1 List.mem_cons_self) with e | e
        · exact e
        · rcases List.mem_cons.1 ((h y).2 List.mem_cons_self) with f | f
          · exact f.symm
          · have h1 := hb.1 x e; have h2 := ha.1 y f; omega
      subst e
      rw [ih ha.2 hb.2 fun z => ?_]
      constructor
      · intro hz
        rcases List.mem_cons.1 ((h z).1 (List.mem_cons_of_mem _ hz)) with e | e
        · subst e; have := ha.1 z hz; omega
        · exact e
      · intro hz
        rcases List.mem_cons.1 ((h z).2 (List.mem_cons_of_mem _ hz)) with e | e
        · subst e; have := hb.1 z hz; omega
        · exact e

theorem untilS_mem {l : List Ent} {u : Int} (h : untilS l u ≠ -1) : (u, untilS l u) ∈ l := by
  induction l with
  | nil => exact absurd rfl h
  | cons x l ih =>
    rw [untilS] at h ⊢
    by_cases e : x.1 = u
    · rw [if_pos e]; subst e; exact List.mem_cons_self
    · rw [if_neg e] at h ⊢; exact List.mem_cons_of_mem _ (ih h)
theorem untilS_eq {l : List Ent} (hp : l.Pairwise fun x y => x.1 < y.1) {x : Ent} (hx : x ∈ l) : untilS l x.1 = x.2 := by
  induction l with
  | nil => cases hx
  | cons y l ih =>
    rw [List.pairwise_cons] at hp
    rw [untilS]
    rcases List.mem_cons.1 hx with rfl | hx
    · rw [if_pos rfl]
    · rw [if_neg (by have := hp.1 x hx; omega)]; exact ih hp.2 hx
theorem untilS_none {l : List Ent} {u : Int} (h : ∀ x ∈ l, x.1 ≠ u) : untilS l u = -1 := by
  induction l with
  | nil => rfl
  | cons y l ih =>
    rw [untilS, if_neg (h y List.mem_cons_self)]
    exact ih fun x hx => h x (List.mem_cons_of_mem _ hx)
/-- Of a valid list: from 0 on exactly for the receivers that stand there. -/
theorem untilS_valid {l : List Ent} (h : validL l = true) (u t : Int) : (u, t) ∈ l ↔ 0 ≤ t ∧ untilS l u = t := by
  have hv := validL_iff.1 h
  constructor
  · intro hm
    exact ⟨(okE_iff.1 (hv.1 _ hm)).2.2.1, untilS_eq hv.2 hm⟩
  · rintro ⟨h0, rfl⟩
    exact untilS_mem (by omega)
theorem untilS_ge {l : List Ent} (h : validL l = true) (u : Int) : -1 ≤ untilS l u := by
  by_cases e : untilS l u = -1
  · omega
  · have := (untilS_valid h u _).1 (untilS_mem e); omega
theorem untilS_range {l : List Ent} (h : validL l = true) {u : Int} (hu : 0 ≤ untilS l u) : 0 ≤ u ∧ u < 64 ∧ untilS l u ≤ 1099511627776 := by
  have := okE_iff.1 ((validL_iff.1 h).1 _ ((untilS_valid h u _).2 ⟨hu, rfl⟩))
  exact ⟨this.1, this.2.1, this.2.2.2⟩

theorem mergeS_pair (a b : List Ent) : (mergeS a b).Pairwise fun x y => x.1 < y.1 := by
  unfold mergeS
  rw [List.pairwise_filterMap]
  refine List.Pairwise.imp_of_mem ?_ (List.pairwise_lt_range)
  intro u v _ _ huv x hx y hy
  split at hx
  · split at hy
    · simp only [Option.some.injEq] at hx hy
      subst hx hy
      simp only
      omega
    · cases hy
  · cases hx
theorem mergeS_mem {a b : List Ent} (ha : validL a = true) (hb : validL b = true) (u t : Int) : (u, t) ∈ mergeS a b ↔ 0 ≤ t ∧ max (untilS a u) (untilS b u) = t := by
  unfold mergeS
  rw [List.mem_filterMap]
  constructor
  · rintro ⟨v, hv, h⟩
    split at h
    · simp only [Option.some.injEq, Prod.mk.injEq] at h
      obtain ⟨rfl, rfl⟩ := h
      exact ⟨by assumption, rfl⟩
    · cases h
  · rintro ⟨h0, h⟩
    have hu : 0 ≤ u ∧ u < 64 := by
      rcases Int.le_total (untilS a u) (untilS b u) with hle | hle
      · rw [Int.max_eq_right hle] at h
        have := untilS_range hb (u := u) (by omega); omega
      · rw [Int.max_eq_left hle] at h
        have := untilS_range ha (u := u) (by omega); omega
    refine ⟨u.toNat, by simp; omega, ?_⟩
    rw [Int.toNat_of_nonneg hu.1, h, if_pos h0]
theorem mergeS_valid {a b : List Ent} (ha : validL a = true) (hb : validL b = true) : validL (mergeS a b) = true := by
  refine validL_iff.2 ⟨fun x hx => ?_, mergeS_pair a b⟩
  obtain ⟨u, t⟩ := x
  obtain ⟨h0, h⟩ := (mergeS_mem ha hb u t).1 hx
  rw [okE_iff]
  rcases Int.le_total (untilS a u) (untilS b u) with hle | hle
  · rw [Int.max_eq_right hle] at h
    have := untilS_range hb (u := u) (by omega); simp only; omega
  · rw [Int.max_eq_left hle] at h
    have := untilS_range ha (u := u) (by omega); simp only; omega
theorem untilS_merge {a b : List Ent} (ha : validL a = true) (hb : validL b = true) (u : Int) : untilS (mergeS a b) u = max (untilS a u) (untilS b u) := by
  have hm := mergeS_valid ha hb
  have h1 := untilS_ge ha u
  have h2 := untilS_ge hb u
  have h3 := untilS_ge hm u
  by_cases h : 0 ≤ max (untilS a u) (untilS b u)
  · exact ((untilS_valid hm u _).1 ((mergeS_mem ha hb u _).2 ⟨h, rfl⟩)).2
  · by_cases h' : 0 ≤ untilS (mergeS a b) u
    · have := (mergeS_mem ha hb u _).1 ((untilS_valid hm u _).2 ⟨h', rfl⟩)
      omega
    · omega
theorem ext_until {a b : List Ent} (ha : validL a = true) (hb : validL b = true) (h : ∀ u, untilS a u = untilS b u) : a = b :=
  same_of_mem (validL_iff.1 ha).2 (validL_iff.1 hb).2 fun x => by
    obtain ⟨u, t⟩ := x
    rw [untilS_valid ha, untilS_valid hb, h]
theorem mergeS_comm {a b : List Ent} (ha : validL a = true) (hb : validL b = true) : mergeS a b = mergeS b a :=
  ext_until (mergeS_valid ha hb) (mergeS_valid hb ha) fun u => by rw [untilS_merge ha hb, untilS_merge hb ha, Int.max_comm]
theorem mergeS_self {a : List Ent} (ha : validL a = true) : mergeS a a = a :=
  ext_until (mergeS_valid ha ha) ha fun u => by rw [untilS_merge ha ha, Int.max_self]
theorem mergeS_again {a b : List Ent} (ha : validL a = true) (hb : validL b = true) : mergeS (mergeS a b) b = mergeS a b :=
  ext_until (mergeS_valid (mergeS_valid ha hb) hb) (mergeS_valid ha hb) fun u => by rw [untilS_merge (mergeS_valid ha hb) hb, untilS_merge ha hb]; omega

theorem pruneS_valid {l : List Ent} (h : validL l = true) (e : Int) : validL (pruneS l e) = true := by
  rw [validL_iff] at h ⊢
  exact ⟨fun x hx => h.1 x (List.mem_filter.1 hx).1, h.2.filter _⟩
theorem untilS_prune {l : List Ent} (h : validL l = true) {e : Int} (he : 0 ≤ e) (u : Int) : untilS (pruneS l e) u = if e ≤ untilS l u then untilS l u else -1 := by
  have hp := pruneS_valid h e
  split
  · rename_i h1
    have hm : (u, untilS l u) ∈ pruneS l e := List.mem_filter.2 ⟨(untilS_valid h u _).2 ⟨by omega, rfl⟩, by simpa using h1⟩
    exact ((untilS_valid hp u _).1 hm).2
  · rename_i h1
    by_cases h2 : untilS (pruneS l e) u = -1
    · exact h2
    · have hm := List.mem_filter.1 (untilS_mem h2)
      have h3 : untilS l u = untilS (pruneS l e) u := ((untilS_valid h u _).1 hm.1).2
      have h4 : e ≤ untilS (pruneS l e) u := of_decide_eq_true hm.2
      omega
theorem prune_merge {a b : List Ent} (ha : validL a = true) (hb : validL b = true) {e : Int} (he : 0 ≤ e) : mergeS (pruneS a e) (pruneS b e) = pruneS (mergeS a b) e :=
  ext_until (mergeS_valid (pruneS_valid ha e) (pruneS_valid hb e)) (pruneS_valid (mergeS_valid ha hb) e) fun u => by
    rw [untilS_merge (pruneS_valid ha e) (pruneS_valid hb e), untilS_prune ha he, untilS_prune hb he, untilS_prune (mergeS_valid ha hb) he, untilS_merge ha hb]
    have h1 := untilS_ge ha u
    have h2 := untilS_ge hb u
    split <;> split <;> split <;> omega

/-- Ordered by receivers, of one receiver the later epochs first. -/
def leE (x y : Ent) : Prop := x.1 < y.1 ∨ (x.1 = y.1 ∧ y.2 ≤ x.2)
theorem compGo_mem {l : List Ent} {p : Int} {x : Ent} (h : x ∈ compGo p l) : x ∈ l := by
  induction l generalizing p with
  | nil => cases h
  | cons y l ih =>
    rw [compGo] at h
    split at h
    · exact List.mem_cons_of_mem _ (ih h)
    · rcases List.mem_cons.1 h with rfl | h
      · exact List.mem_cons_self
      · exact List.mem_cons_of_mem _ (ih h)
theorem compGo_up {l : List Ent} {p : Int} (hs : l.Pairwise leE) (hp : ∀ x ∈ l, p ≤ x.1) : (∀ x ∈ compGo p l, p < x.1) ∧ (compGo p l).Pairwise fun x y => x.1 < y.1 := by
  induction l generalizing p with
  | nil => exact ⟨by simp [compGo], by rw [compGo]; exact .nil⟩
  | cons y l ih =>
    rw [List.pairwise_cons] at hs
    have hy := hp y List.mem_cons_self
    rw [compGo]
    split
    · exact ih hs.2 fun x hx => hp x (List.mem_cons_of_mem _ hx)
    · have h1 : ∀ x ∈ l, y.1 ≤ x.1 := fun x hx => by rcases hs.1 x hx with h | h <;> omega
      obtain ⟨i1, i2⟩ := ih hs.2 h1
      refine ⟨fun x hx => ?_, List.pairwise_cons.2 ⟨i1, i2⟩⟩
      rcases List.mem_cons.1 hx with rfl | hx
      · omega
      · have := i1 x hx; omega
theorem compGo_all {l : List Ent} {p : Int} (hs : l.Pairwise leE) {x : Ent} (hx : x ∈ l) (hne : x.1 ≠ p) : ∃ t, x.2 ≤ t ∧ (x.1, t) ∈ compGo p l := by
  induction l generalizing p with
  | nil => cases hx
  | cons y l ih =>
    rw [List.pairwise_cons] at hs
    rw [compGo]
    rcases List.mem_cons.1 hx with rfl | hx
    · rw [if_neg hne]
      exact ⟨x.2, Int.le_refl _, List.mem_cons_self⟩
    · split
      · exact ih hs.2 hx hne
      · by_cases e : x.1 = y.1
        · refine ⟨y.2, ?_, by rw [e]; exact List.mem_cons_self⟩
          rcases hs.1 x hx with h | h <;> omega
        · obtain ⟨t, h1, h2⟩ := ih hs.2 hx e
          exact ⟨t, h1, List.mem_cons_of_mem _ h2⟩
theorem compE_mem {l : List Ent} {x : Ent} (h : x ∈ compE l) : x ∈ l := by
  cases l with
  | nil => exact h
  | cons y l =>
    rw [compE] at h
    rcases List.mem_cons.1 h with rfl | h
    · exact List.mem_cons_self
    · exact List.mem_cons_of_mem _ (compGo_mem h)
theorem compE_up {l : List Ent} (hs : l.Pairwise leE) : (compE l).Pairwise fun x y => x.1 < y.1 := by
  cases l with
  | nil => exact .nil
  | cons y l =>
    rw [List.pairwise_cons] at hs
    have h1 : ∀ x ∈ l, y.1 ≤ x.1 := fun x hx => by rcases hs.1 x hx with h | h <;> omega
    obtain ⟨i1, i2⟩ := compGo_up (p := y.1) hs.2 h1
    exact List.pairwise_cons.2 ⟨i1, i2⟩
theorem compE_all {l : List Ent} (hs : l.Pairwise leE) {x : Ent} (hx : x ∈ l) : ∃ t, x.2 ≤ t ∧ (x.1, t) ∈ compE l := by
  cases l with
  | nil => cases hx
  | cons y l =>
    rw [List.pairwise_cons] at hs
    rw [compE]
    by_cases e : x.1 = y.1
    · refine ⟨y.2, ?_, by rw [e]; exact List.mem_cons_self⟩
      rcases List.mem_cons.1 hx with rfl | hx
      · exact Int.le_refl _
      · rcases hs.1 x hx with h | h <;> omega
    · rcases List.mem_cons.1 hx with rfl | hx
      · exact absurd rfl e
      · obtain ⟨t, h1, h2⟩ := compGo_all hs.2 hx e
        exact ⟨t, h1, List.mem_cons_of_mem _ h2⟩
/-- What is sorted and made compact is the merged list. -/
theorem compE_merge {a b s : List Ent} (ha : validL a = true) (hb : validL b = true) (hp : ∀ x, x ∈ s ↔ x ∈ a ∨ x ∈ b) (hs : s.Pairwise leE) : compE s = mergeS a b := by
  refine same_of_mem (compE_up hs) (mergeS_pair a b) fun x => ?_
  obtain ⟨u, t⟩ := x
  have hup := compE_up hs
  have key : ∀ v r, (v, r) ∈ compE s → 0 ≤ r ∧ max (untilS a v) (untilS b v) = r := by
    intro v r hm
    have hge : ∀ r', (v, r') ∈ a ∨ (v, r') ∈ b → r' ≤ r := by
      intro r' h'
      obtain ⟨t', h1, h2⟩ := compE_all hs ((hp _).2 h')
      have e : t' = r := (untilS_eq hup h2).symm.trans (untilS_eq hup hm)
      simp only at h1; omega
    rcases (hp _).1 (compE_mem hm) with h | h
    · obtain ⟨h0, h1⟩ := (untilS_valid ha v r).1 h
      refine ⟨h0, ?_⟩
      by_cases hb' : 0 ≤ untilS b v
      · have := hge _ (.inr ((untilS_valid hb v _).2 ⟨hb', rfl⟩)); omega
      · omega
    · obtain ⟨h0, h1⟩ := (untilS_valid hb v r).1 h
      refine ⟨h0, ?_⟩
      by_cases ha' : 0 ≤ untilS a v
      · have := hge _ (.inl ((untilS_valid ha v _).2 ⟨ha', rfl⟩)); omega
      · omega
  rw [mergeS_mem ha hb]
  constructor
  · exact key u t
  · rintro ⟨h0, h⟩
    have hin : (u, t) ∈ a ∨ (u, t) ∈ b := by
      rcases Int.le_total (untilS a u) (untilS b u) with hle | hle
      · rw [Int.max_eq_right hle] at h
        exact .inr ((untilS_valid hb u t).2 ⟨h0, h⟩)
      · rw [Int.max_eq_left hle] at h
        exact .inl ((untilS_valid ha u t).2 ⟨h0, h⟩)
    obtain ⟨t', h1, h2⟩ := compE_all hs ((hp _).2 hin)
    have := key _ _ h2
    simp only at this h1 h2
    obtain rfl : t' = t := by omega
    exact h2
end Go.Proofs.YtinpiodfpnbllaaGreatDoor

/- Proofs and growths in plain words: which fit, what roots and texts they give, and what follows if they are accepted. -/
namespace Go.Proofs.YtinpiodfpnbllaaGreatDoor
set_option linter.unusedVariables false

/-- How many entries a path has. -/
def stepsS (n i : Nat) : Nat :=
  if h : n ≤ 1 then 0
  else
    have := splitS_lt (n := n) (by omega)
    have := splitS_pos n
    if i < splitS n then 1 + stepsS (splitS n) i else 1 + stepsS (n - splitS n) (i - splitS n)
termination_by n
decreasing_by all_goals omega
theorem stepsS_one {n : Nat} (h : n ≤ 1) (i : Nat) : stepsS n i = 0 := by rw [stepsS, dif_pos h]
theorem stepsS_low {n i : Nat} (h : 2 ≤ n) (hi : i < splitS n) : stepsS n i = 1 + stepsS (splitS n) i := by
  rw [stepsS, dif_neg (by omega)]
  exact if_pos hi
theorem stepsS_high {n i : Nat} (h : 2 ≤ n) (hi : ¬ i < splitS n) : stepsS n i = 1 + stepsS (n - splitS n) (i - splitS n) := by
  rw [stepsS, dif_neg (by omega)]
  exact if_neg hi

def lastK (l : List (List UInt8)) : List UInt8 := l.getD (l.length - 1) []
def initK (l : List (List UInt8)) : List (List UInt8) := l.take (l.length - 1)
theorem initK_length (l : List (List UInt8)) : (initK l).length = l.length - 1 := by simp [initK]
theorem lastK_snoc (l : List (List UInt8)) (x : List UInt8) : lastK (l ++ [x]) = x := by simp [lastK]
theorem initK_snoc (l : List (List UInt8)) (x : List UInt8) : initK (l ++ [x]) = l := by simp [initK]
theorem lastK_mem {l : List (List UInt8)} (h : 0 < l.length) : lastK l ∈ l := by
  unfold lastK
  rw [List.getD_eq_getElem?_getD, List.getElem?_eq_getElem (by omega)]
  exact List.getElem_mem _
theorem initK_mem {l : List (List UInt8)} {x : List UInt8} (h : x ∈ initK l) : x ∈ l := List.mem_of_mem_take h

/-- The root that a path gives for a leaf, and the texts whose digests are taken. -/
def climbS (leaf : List UInt8) (n i : Nat) (path : List (List UInt8)) : List UInt8 × List (List UInt8) :=
  if h : n ≤ 1 then (digS (leafT leaf), [leafT leaf])
  else
    have := splitS_lt (n := n) (by omega)
    have := splitS_pos n
    if i < splitS n then
      (digS (nodeT (climbS leaf (splitS n) i (initK path)).1 (lastK path)), (climbS leaf (splitS n) i (initK path)).2 ++ [nodeT (climbS leaf (splitS n) i (initK path)).1 (lastK path)])
    else
      (digS (nodeT (lastK path) (climbS leaf (n - splitS n) (i - splitS n) (initK path)).1), (climbS leaf (n - splitS n) (i - splitS n) (initK path)).2 ++ [nodeT (lastK path) (climbS leaf (n - splitS n) (i - splitS n) (initK path)).1])
termination_by n
decreasing_by all_goals omega
theorem climbS_one (leaf : List UInt8) {n : Nat} (h : n ≤ 1) (i : Nat) (path : List (List UInt8)) : climbS leaf n i path = (digS (leafT leaf), [leafT leaf]) := by rw [climbS, dif_pos h]
theorem climbS_low (leaf : List UInt8) {n i : Nat} (path : List (List UInt8)) (h : 2 ≤ n) (hi : i < splitS n) :
    climbS leaf n i path = (digS (nodeT (climbS leaf (splitS n) i (initK path)).1 (lastK path)), (climbS leaf (splitS n) i (initK path)).2 ++ [nodeT (climbS leaf (splitS n) i (initK path)).1 (lastK path)]) := by
  rw [climbS, dif_neg (by omega)]
  exact if_pos hi
theorem climbS_high (leaf : List UInt8) {n i : Nat} (path : List (List UInt8)) (h : 2 ≤ n) (hi : ¬ i < splitS n) :
    climbS leaf n i path = (digS (nodeT (lastK path) (climbS leaf (n - splitS n) (i - splitS n) (initK path)).1), (climbS leaf (n - splitS n) (i - splitS n) (initK path)).2 ++ [nodeT (lastK path) (climbS leaf (n - splitS n) (i - splitS n) (initK path)).1]) := by
  rw [climbS, dif_neg (by omega)]
  exact if_neg hi
theorem climbS_length (leaf : List UInt8) (n i : Nat) (path : List (List UInt8)) : (climbS leaf n i path).1.length = 16 := by
  rw [climbS]
  split
  · exact digS_length _
  · dsimp only
    split <;> exact digS_length _

/-- How many entries a growth has. -/
def partsS (n m : Nat) (whole : Bool) : Nat :=
  if h : n ≤ 1 ∨ m = n then (if whole then 0 else 1)
  else
    have := splitS_lt (n := n) (by omega)
    have := splitS_pos n
    if m ≤ splitS n then 1 + partsS (splitS n) m whole else 1 + partsS (n - splitS n) (m - splitS n) false
termination_by n
decreasing_by all_goals omega
theorem partsS_end (n : Nat) (whole : Bool) : partsS n n whole = if whole then 0 else 1 := by rw [partsS, dif_pos (.inr rfl)]
theorem partsS_low {n m : Nat} (whole : Bool) (h : 2 ≤ n) (hm : m ≠ n) (hi : m ≤ splitS n) : partsS n m whole = 1 + partsS (splitS n) m whole := by
  rw [partsS, dif_neg (by omega)]
  exact if_pos hi
theorem partsS_high {n m : Nat} (whole : Bool) (h : 2 ≤ n) (hm : m ≠ n) (hi : ¬ m ≤ splitS n) : partsS n m whole = 1 + partsS (n - splitS n) (m - splitS n) false := by
  rw [partsS, dif_neg (by omega)]
  exact if_neg hi

/-- The two roots that a growth path gives for an old root, and the texts whose digests are taken. -/
def growS (before : List UInt8) (n m : Nat) (path : List (List UInt8)) : List UInt8 × List UInt8 × List (List UInt8) :=
  if h : n ≤ 1 ∨ m = n then (path.headD before, path.headD before, [])
  else
    have := splitS_lt (n := n) (by omega)
    have := splitS_pos n
    if m ≤ splitS n then
      ((growS before (splitS n) m (initK path)).1, digS (nodeT (growS before (splitS n) m (initK path)).2.1 (lastK path)),
        (growS before (splitS n) m (initK path)).2.2 ++ [nodeT (growS before (splitS n) m (initK path)).2.1 (lastK path)])
    else
      (digS (nodeT (lastK path) (growS before (n - splitS n) (m - splitS n) (initK path)).1), digS (nodeT (lastK path) (growS before (n - splitS n) (m - splitS n) (initK path)).2.1),
        (growS before (n - splitS n) (m - splitS n) (initK path)).2.2 ++ [nodeT (lastK path) (growS before (n - splitS n) (m - splitS n) (initK path)).1, nodeT (lastK path) (growS before (n - splitS n) (m - splitS n) (initK path)).2.1])
termination_by n
decreasing_by all_goals omega
theorem growS_end (before : List UInt8) (n : Nat) (path : List (List UInt8)) : growS before n n path = (path.headD before, path.headD before, []) := by rw [growS, dif_pos (.inr rfl)]
theorem growS_low (before : List UInt8) {n m : Nat} (path : List (List UInt8)) (h : 2 ≤ n) (hm : m ≠ n) (hi : m ≤ splitS n) :
    growS before n m path = ((growS before (splitS n) m (initK path)).1, digS (nodeT (growS before (splitS n) m (initK path)).2.1 (lastK path)),
        (growS before (splitS n) m (initK path)).2.2 ++ [nodeT (growS before (splitS n) m (initK path)).2.1 (lastK path)]) := by
  rw [growS, dif_neg (by omega)]
  exact if_pos hi
theorem growS_high (before : List UInt8) {n m : Nat} (path : List (List UInt8)) (h : 2 ≤ n) (hm : m ≠ n) (hi : ¬ m ≤ splitS n) :
    growS before n m path = (digS (nodeT (lastK path) (growS before (n - splitS n) (m - splitS n) (initK path)).1), digS (nodeT (lastK path) (growS before (n - splitS n) (m - splitS n) (initK path)).2.1),
        (growS before (n - splitS n) (m - splitS n) (initK path)).2.2 ++ [nodeT (lastK path) (growS before (n - splitS n) (m - splitS n) (initK path)).1, nodeT (lastK path) (growS before (n - splitS n) (m - splitS n) (initK path)).2.1]) := by
  rw [growS, dif_neg (by omega)]
  exact if_neg hi
def All16 (l : List (List UInt8)) : Prop := ∀ k ∈ l, k.length = 16
theorem All16.init {l : List (List UInt8)} (h : All16 l) : All16 (initK l) := fun k hk => h k (initK_mem hk)
theorem All16.last {l : List (List UInt8)} (h : All16 l) (hl : 0 < l.length) : (lastK l).length = 16 := h _ (lastK_mem hl)
theorem headD_length {l : List (List UInt8)} {b : List UInt8} (h : All16 l) (hb : b.length = 16) : (l.headD b).length = 16 := by
  cases l with
  | nil => exact hb
  | cons x l => exact h x List.mem_cons_self
theorem growS_length {before : List UInt8} (hb : before.length = 16) : ∀ (n m : Nat) {path : List (List UInt8)}, All16 path → (growS before n m path).1.length = 16 ∧ (growS before n m path).2.1.length = 16 := by
  intro n
  induction n using Nat.strongRecOn with
  | _ n ih =>
    intro m path hp
    rw [growS]
    split
    · exact ⟨headD_length hp hb, headD_length hp hb⟩
    · rename_i h
      have h1 := splitS_lt (n := n) (by omega)
      have h2 := splitS_pos n
      dsimp only
      split
      · exact ⟨(ih _ (by omega) _ hp.init).1, digS_length _⟩
      · exact ⟨digS_length _, digS_length _⟩

/-- Two different texts have the same digest. -/
def Clash (ts : List (List UInt8)) : Prop := ∃ s ∈ ts, ∃ t ∈ ts, s ≠ t ∧ digS s = digS t
theorem Clash.mono {a b : List (List UInt8)} (h : Clash a) (hs : ∀ x ∈ a, x ∈ b) : Clash b := by
  obtain ⟨s, h1, t, h2, h3⟩ := h
  exact ⟨s, hs _ h1, t, hs _ h2, h3⟩
theorem same_or {ts : List (List UInt8)} {s t : List UInt8} (hs : s ∈ ts) (ht : t ∈ ts) (h : digS s = digS t) : s = t ∨ Clash ts := by
  by_cases e : s = t
  · exact .inl e
  · exact .inr ⟨s, hs, t, ht, e, h⟩
theorem nodeT_inj {a b c d : List UInt8} (h : nodeT a b = nodeT c d) (hl : a.length = c.length) : a = c ∧ b = d := by
  unfold nodeT at h
  injection h with _ h
  exact List.append_inj h hl
theorem leafT_inj {a b : List UInt8} (h : leafT a = leafT b) : a = b := by
  unfold leafT at h
  injection h
theorem texts_root {l : List (List UInt8)} (h : 2 ≤ l.length) : nodeT (rootS (l.take (splitS l.length))) (rootS (l.drop (splitS l.length))) ∈ textsS l := by rw [textsS_node h]; simp
theorem texts_take {l : List (List UInt8)} (h : 2 ≤ l.length) : ∀ x ∈ textsS (l.take (splitS l.length)), x ∈ textsS l := fun x hx => by rw [textsS_node h]; simp [hx]
theorem texts_drop {l : List (List UInt8)} (h : 2 ≤ l.length) : ∀ x ∈ textsS (l.drop (splitS l.length)), x ∈ textsS l := fun x hx => by rw [textsS_node h]; simp [hx]

/-- Two lists of one length with one root are the same, or two texts have one digest. -/
theorem root_same : ∀ (n : Nat) (a b : List (List UInt8)), a.length = n → b.length = n → rootS a = rootS b → a = b ∨ Clash (textsS a ++ textsS b) := by
  intro n
  induction n using Nat.strongRecOn with
  | _ n ih =>
    intro a b ha hb h
    rcases Nat.lt_or_ge n 2 with h2 | h2
    · rcases Nat.lt_or_ge n 1 with h1 | h1
      · obtain rfl : n = 0 := by omega
        rw [List.eq_nil_of_length_eq_zero ha, List.eq_nil_of_length_eq_zero hb]
        exact .inl rfl
      · obtain rfl : n = 1 := by omega
        obtain ⟨x, rfl⟩ := List.length_eq_one_iff.1 ha
        obtain ⟨y, rfl⟩ := List.length_eq_one_iff.1 hb
        rw [rootS_one, rootS_one] at h
        rcases same_or (ts := textsS [x] ++ textsS [y]) (by rw [textsS_one]; simp) (by rw [textsS_one y]; simp) h with h | h
        · rw [leafT_inj h]; exact .inl rfl
        · exact .inr h
    have s1 := splitS_lt h2
    have s2 := splitS_pos n
    rw [rootS_node (by omega), rootS_node (l := b) (by omega)] at h
    rcases same_or (ts := textsS a ++ textsS b) (List.mem_append_left _ (texts_root (by omega))) (List.mem_append_right _ (texts_root (by omega))) h with h | h
    · obtain ⟨e1, e2⟩ := nodeT_inj h (by rw [rootS_length, rootS_length])
      have ta := texts_take (l := a) (by omega)
      have tb := texts_take (l := b) (by omega)
      have da := texts_drop (l := a) (by omega)
      have db := texts_drop (l := b) (by omega)
      rw [ha] at e1 e2 ta da
      rw [hb] at e1 e2 tb db
      rcases ih (splitS n) s1 _ _ (by rw [List.length_take]; omega) (by rw [List.length_take]; omega) e1 with f1 | f1
      · rcases ih (n - splitS n) (by omega) _ _ (by rw [List.length_drop]; omega) (by rw [List.length_drop]; omega) e2 with f2 | f2
        · left
          rw [← List.take_append_drop (splitS n) a, f1, f2, List.take_append_drop]
        · exact .inr (f2.mono fun x hx => by rcases List.mem_append.1 hx with hx | hx; exact List.mem_append_left _ (da x hx); exact List.mem_append_right _ (db x hx))
      · exact .inr (f1.mono fun x hx => by rcases List.mem_append.1 hx with hx | hx; exact List.mem_append_left _ (ta x hx); exact List.mem_append_right _ (tb x hx))
    · exact .inr h

theorem pathS_steps : ∀ (n : Nat) (l : List (List UInt8)) (i : Nat), l.length = n → (pathS l i).length = stepsS n i := by
  intro n
  induction n using Nat.strongRecOn with
  | _ n ih =>
    intro l i hl
    rcases Nat.lt_or_ge n 2 with h2 | h2
    · rw [pathS_one (by omega), stepsS_one (by omega)]; rfl
    have s1 := splitS_lt h2
    have s2 := splitS_pos n
    by_cases hi : i < splitS n
    · rw [pathS_low (by omega) (by rw [hl]; exact hi), stepsS_low h2 hi, List.length_append, hl, ih (splitS n) s1 _ _ (by rw [List.length_take]; omega)]
      simp only [List.length_cons, List.length_nil]; omega
    · rw [pathS_high (by omega) (by rw [hl]; exact hi), stepsS_high h2 hi, List.length_append, hl, ih (n - splitS n) (by omega) _ _ (by rw [List.length_drop]; omega)]
      simp only [List.length_cons, List.length_nil]; omega

/-- Each leaf is proved. -/
theorem climb_path : ∀ (n : Nat) (l : List (List UInt8)) (i : Nat), l.length = n → i < n → (climbS (l.getD i []) n i (pathS l i)).1 = rootS l := by
  intro n
  induction n using Nat.strongRecOn with
  | _ n ih =>
    intro l i hl hi
    rcases Nat.lt_or_ge n 2 with h2 | h2
    · obtain rfl : n = 1 := by omega
      obtain ⟨x, rfl⟩ := List.length_eq_one_iff.1 hl
      obtain rfl : i = 0 := by omega
      rw [climbS_one _ (by omega), rootS_one]; rfl
    have s1 := splitS_lt h2
    have s2 := splitS_pos n
    by_cases hk : i < splitS n
    · have := ih (splitS n) s1 (l.take (splitS n)) i (by rw [List.length_take]; omega) hk
      rw [climbS_low _ _ h2 hk, pathS_low (by omega) (by rw [hl]; exact hk), lastK_snoc, initK_snoc, hl]
      have e : (l.take (splitS n)).getD i [] = l.getD i [] := by simp [List.getD_eq_getElem?_getD, hk]
      rw [← e, this, rootS_node (l := l) (by omega), hl]
    · have := ih (n - splitS n) (by omega) (l.drop (splitS n)) (i - splitS n) (by rw [List.length_drop]; omega) (by omega)
      rw [climbS_high _ _ h2 hk, pathS_high (by omega) (by rw [hl]; exact hk), lastK_snoc, initK_snoc, hl]
      have e : (l.drop (splitS n)).getD (i - splitS n) [] = l.getD i [] := by simp only [List.getD_eq_getElem?_getD, List.getElem?_drop]; rw [show splitS n + (i - splitS n) = i from by omega]
      rw [← e, this, rootS_node (l := l) (by omega), hl]

/-- What is accepted is true, or two texts have one digest. -/
theorem climb_true : ∀ (n : Nat) (l : List (List UInt8)) (leaf : List UInt8) (i : Nat) (path : List (List UInt8)), l.length = n → i < n → path.length = stepsS n i → All16 path →
    (climbS leaf n i path).1 = rootS l → l.getD i [] = leaf ∨ Clash (textsS l ++ (climbS leaf n i path).2) := by
  intro n
  induction n using Nat.strongRecOn with
  | _ n ih =>
    intro l leaf i path hl hi hp h16 h
    rcases Nat.lt_or_ge n 2 with h2 | h2
    · obtain rfl : n = 1 := by omega
      obtain ⟨x, rfl⟩ := List.length_eq_one_iff.1 hl
      obtain rfl : i = 0 := by omega
      rw [climbS_one _ (by omega)] at h ⊢
      rw [rootS_one] at h
      rcases same_or (ts := textsS [x] ++ [leafT leaf]) (by simp) (by rw [textsS_one]; simp) h with h | h
      · rw [leafT_inj h]; exact .inl rfl
      · exact .inr h
    have s1 := splitS_lt h2
    have s2 := splitS_pos n
    have t0 := texts_root (l := l) (by omega)
    have t1 := texts_take (l := l) (by omega)
    have t2 := texts_drop (l := l) (by omega)
    rw [rootS_node (by omega)] at h
    rw [hl] at h t0 t1 t2
    by_cases hk : i < splitS n
    · rw [stepsS_low h2 hk] at hp
      rw [climbS_low _ _ h2 hk] at h ⊢
      have IH := ih (splitS n) s1 (l.take (splitS n)) leaf i (initK path) (by rw [List.length_take]; omega) hk (by rw [initK_length]; omega) h16.init
      have e : (l.take (splitS n)).getD i [] = l.getD i [] := by simp [List.getD_eq_getElem?_getD, hk]
      rw [e] at IH
      have hlen := climbS_length leaf (splitS n) i (initK path)
      generalize climbS leaf (splitS n) i (initK path) = r at *
      dsimp only at h ⊢
      rcases same_or (ts := textsS l ++ (r.2 ++ [nodeT r.1 (lastK path)])) (by simp) (List.mem_append_left _ t0) h with h | h
      · obtain ⟨e1, e2⟩ := nodeT_inj h (by rw [hlen, rootS_length])
        rcases IH e1 with f | f
        · exact .inl f
        · exact .inr (f.mono fun x hx => by rcases List.mem_append.1 hx with hx | hx; exact List.mem_append_left _ (t1 x hx); exact List.mem_append_right _ (List.mem_append_left _ hx))
      · exact .inr h
    · rw [stepsS_high h2 hk] at hp
      rw [climbS_high _ _ h2 hk] at h ⊢
      have IH := ih (n - splitS n) (by omega) (l.drop (splitS n)) leaf (i - splitS n) (initK path) (by rw [List.length_drop]; omega) (by omega) (by rw [initK_length]; omega) h16.init
      have e : (l.drop (splitS n)).getD (i - splitS n) [] = l.getD i [] := by simp only [List.getD_eq_getElem?_getD, List.getElem?_drop]; rw [show splitS n + (i - splitS n) = i from by omega]
      rw [e] at IH
      have hlast := h16.last (l := path) (by omega)
      generalize climbS leaf (n - splitS n) (i - splitS n) (initK path) = r at *
      dsimp only at h ⊢
      rcases same_or (ts := textsS l ++ (r.2 ++ [nodeT (lastK path) r.1])) (by simp) (List.mem_append_left _ t0) h with h | h
      · obtain ⟨e1, e2⟩ := nodeT_inj h (by rw [hlast, rootS_length])
        rcases IH e2 with f | f
        · exact .inl f
        · exact .inr (f.mono fun x hx => by rcases List.mem_append.1 hx with hx | hx; exact List.mem_append_left _ (t2 x hx); exact List.mem_append_right _ (List.mem_append_left _ hx))
      · exact .inr h

theorem partS_parts : ∀ (n : Nat) (l : List (List UInt8)) (m : Nat) (wh : Bool), l.length = n → 1 ≤ m → m ≤ n → (partS l m wh).length = partsS n m wh := by
  intro n
  induction n using Nat.strongRecOn with
  | _ n ih =>
    intro l m wh hl h1 hm
    by_cases he : m = n
    · subst he
      rw [partsS_end]
      subst hl
      rw [partS_end]
      cases wh <;> rfl
    have s1 := splitS_lt (n := n) (by omega)
    have s2 := splitS_pos n
    by_cases hi : m ≤ splitS n
    · rw [partS_low _ (by omega) (by omega) (by rw [hl]; exact hi), partsS_low _ (by omega) he hi, List.length_append, hl, ih (splitS n) s1 _ _ _ (by rw [List.length_take]; omega) h1 hi]
      simp only [List.length_cons, List.length_nil]; omega
    · rw [partS_high _ (by omega) (by omega) (by rw [hl]; exact hi), partsS_high _ (by omega) he hi, List.length_append, hl, ih (n - splitS n) (by omega) _ _ _ (by rw [List.length_drop]; omega) (by omega) (by omega)]
      simp only [List.length_cons, List.length_nil]; omega

theorem split_between {n m : Nat} (h1 : splitS n < m) (h2 : m ≤ n) : splitS m = splitS n := by
  have := splitS_pos n
  have := splitS_ge (n := n) (by omega)
  exact splitS_of h1 (by unfold splitS at this; omega)

/-- The growth from each beginning is proved. -/
theorem grow_part : ∀ (n : Nat) (l : List (List UInt8)) (m : Nat) (wh : Bool) (before : List UInt8), l.length = n → 1 ≤ m → m ≤ n → (wh = true → before = rootS (l.take m)) →
    (growS before n m (partS l m wh)).1 = rootS (l.take m) ∧ (growS before n m (partS l m wh)).2.1 = rootS l := by
  intro n
  induction n using Nat.strongRecOn with
  | _ n ih =>
    intro l m wh before hl h1 hm hb
    by_cases he : m = n
    · subst he
      rw [growS_end]
      subst hl
      rw [partS_end]
      rw [List.take_length] at hb ⊢
      cases wh with
      | true => simp [hb rfl]
      | false => simp
    have h2 : 2 ≤ n := by omega
    have s1 := splitS_lt h2
    have s2 := splitS_pos n
    by_cases hi : m ≤ splitS n
    · have e : (l.take (splitS n)).take m = l.take m := by rw [List.take_take, Nat.min_eq_left hi]
      have IH := ih (splitS n) s1 (l.take (splitS n)) m wh before (by rw [List.length_take]; omega) h1 hi (by rw [e]; exact hb)
      rw [e] at IH
      rw [partS_low _ (by omega) (by omega) (by rw [hl]; exact hi), growS_low _ _ h2 he hi, lastK_snoc, initK_snoc, hl]
      dsimp only
      exact ⟨IH.1, by rw [IH.2, rootS_node (l := l) (by omega), hl]⟩
    · have IH := ih (n - splitS n) (by omega) (l.drop (splitS n)) (m - splitS n) false before (by rw [List.length_drop]; omega) (by omega) (by omega) (by simp)
      rw [partS_high _ (by omega) (by omega) (by rw [hl]; exact hi), growS_high _ _ h2 he hi, lastK_snoc, initK_snoc, hl]
      dsimp only
      have hlm : (l.take m).length = m := by rw [List.length_take]; omega
      refine ⟨?_, by rw [IH.2, rootS_node (l := l) (by omega), hl]⟩
      rw [IH.1, rootS_node (l := l.take m) (by omega), hlm, split_between (by omega) hm, List.take_take, Nat.min_eq_left (by omega), List.take_drop, show splitS n + (m - splitS n) = m from by omega]

/-- An accepted growth is true, or two texts have one digest. -/
theorem grow_true : ∀ (n : Nat) (a b : List (List UInt8)) (m : Nat) (wh : Bool) (before : List UInt8) (path : List (List UInt8)), a.length = m → b.length = n → 1 ≤ m → m ≤ n → path.length = partsS n m wh → All16 path →
    (growS before n m path).1 = rootS a → (growS before n m path).2.1 = rootS b → a = b.take m ∨ Clash (textsS a ++ (textsS b ++ (growS before n m path).2.2)) := by
  intro n
  induction n using Nat.strongRecOn with
  | _ n ih =>
    intro a b m wh before path ha hb h1 hm hp h16 hA hB
    by_cases he : m = n
    · subst he
      rw [growS_end] at hA hB
      rcases root_same m a b ha hb (by rw [← hA, ← hB]) with h | h
      · left; rw [h, ← hb, List.take_length]
      · exact .inr (h.mono fun x hx => by rcases List.mem_append.1 hx with hx | hx; exact List.mem_append_left _ hx; exact List.mem_append_right _ (List.mem_append_left _ hx))
    have h2 : 2 ≤ n := by omega
    have s1 := splitS_lt h2
    have s2 := splitS_pos n
    have t0 := texts_root (l := b) (by omega)
    have t1 := texts_take (l := b) (by omega)
    have t2 := texts_drop (l := b) (by omega)
    rw [rootS_node (l := b) (by omega)] at hB
    rw [hb] at hB t0 t1 t2
    by_cases hi : m ≤ splitS n
    · rw [partsS_low _ h2 he hi] at hp
      have e : (b.take (splitS n)).take m = b.take m := by rw [List.take_take, Nat.min_eq_left hi]
      have IH := ih (splitS n) s1 a (b.take (splitS n)) m wh before (initK path) ha (by rw [List.length_take]; omega) h1 hi (by rw [initK_length]; omega) h16.init
      rw [e] at IH
      rw [growS_low _ _ h2 he hi] at hA hB ⊢
      have hrl : path.length ≠ 0 := by omega
      obtain ⟨r, hr⟩ : ∃ r, r = growS before (splitS n) m (initK path) := ⟨_, rfl⟩
      have hlen : r.2.1.length = (rootS (b.take (splitS n))).length ∨ ¬ r.2.1.length = (rootS (b.take (splitS n))).length := Decidable.em _
      rw [← hr] at IH hA hB ⊢
      dsimp only at hA hB ⊢
      rcases same_or (ts := textsS a ++ (textsS b ++ (r.2.2 ++ [nodeT r.2.1 (lastK path)]))) (by simp) (List.mem_append_right _ (List.mem_append_left _ t0)) hB with h | h
      · have hll := h16.last (l := path) (by omega)
        have hle : r.2.1.length = (rootS (b.take (splitS n))).length := by
          have := congrArg List.length h
          simp only [nodeT, List.length_cons, List.length_append, hll, rootS_length] at this
          rw [rootS_length]; omega
        obtain ⟨e1, e2⟩ := nodeT_inj h hle
        rcases IH hA e1 with f | f
        · exact .inl f
        · refine .inr (f.mono fun x hx => ?_)
          rcases List.mem_append.1 hx with hx | hx
          · exact List.mem_append_left _ hx
          · refine List.mem_append_right _ ?_
            rcases List.mem_append.1 hx with hx | hx
            · exact List.mem_append_left _ (t1 x hx)
            · exact List.mem_append_right _ (List.mem_append_left _ hx)
      · exact .inr h
    · rw [partsS_high _ h2 he hi] at hp
      have sm := split_between (n := n) (m := m) (by omega) hm
      have u0 := texts_root (l := a) (by omega)
      have u1 := texts_take (l := a) (by omega)
      have u2 := texts_drop (l := a) (by omega)
      rw [rootS_node (l := a) (by omega)] at hA
      rw [ha, sm] at hA u0 u1 u2
      have e : (b.drop (splitS n)).take (m - splitS n) = (b.take m).drop (splitS n) := by rw [List.take_drop, show splitS n + (m - splitS n) = m from by omega]
      have IH := ih (n - splitS n) (by omega) (a.drop (splitS n)) (b.drop (splitS n)) (m - splitS n) false before (initK path) (by rw [List.length_drop]; omega) (by rw [List.length_drop]; omega) (by omega) (by omega) (by rw [initK_length]; omega) h16.init
      rw [e] at IH
      rw [growS_high _ _ h2 he hi] at hA hB ⊢
      obtain ⟨r, hr⟩ : ∃ r, r = growS before (n - splitS n) (m - splitS n) (initK path) := ⟨_, rfl⟩
      rw [← hr] at IH hA hB ⊢
      dsimp only at hA hB ⊢
      have hll := h16.last (l := path) (by omega)
      rcases same_or (ts := textsS a ++ (textsS b ++ (r.2.2 ++ [nodeT (lastK path) r.1, nodeT (lastK path) r.2.1]))) (by simp) (List.mem_append_right _ (List.mem_append_left _ t0)) hB with hB | h
      · rcases same_or (ts := textsS a ++ (textsS b ++ (r.2.2 ++ [nodeT (lastK path) r.1, nodeT (lastK path) r.2.1]))) (by simp) (List.mem_append_left _ u0) hA with hA | h
        · obtain ⟨e1, e2⟩ := nodeT_inj hB (by rw [hll, rootS_length])
          obtain ⟨e3, e4⟩ := nodeT_inj hA (by rw [hll, rootS_length])
          rcases root_same (splitS n) (a.take (splitS n)) (b.take (splitS n)) (by rw [List.length_take]; omega) (by rw [List.length_take]; omega) (e3.symm.trans e1) with f | f
          · rcases IH e4 e2 with g | g
            · left
              rw [← List.take_append_drop (splitS n) a, f, g]
              have : b.take (splitS n) = (b.take m).take (splitS n) := by rw [List.take_take, Nat.min_eq_left (by omega)]
              rw [this, List.take_append_drop]
            · refine .inr (g.mono fun x hx => ?_)
              rcases List.mem_append.1 hx with hx | hx
              · exact List.mem_append_left _ (u2 x hx)
              · refine List.mem_append_right _ ?_
                rcases List.mem_append.1 hx with hx | hx
                · exact List.mem_append_left _ (t2 x hx)
                · exact List.mem_append_right _ (List.mem_append_left _ hx)
          · refine .inr (f.mono fun x hx => ?_)
            rcases List.mem_append.1 hx with hx | hx
            · exact List.mem_append_left _ (u1 x hx)
            · exact List.mem_append_right _ (List.mem_append_left _ (t1 x hx))
        · exact .inr h
      · exact .inr h
end Go.Proofs.YtinpiodfpnbllaaGreatDoor

/- The leaves of revocation lists in plain words, and what an accepted proof of absence says. -/
namespace Go.Proofs.YtinpiodfpnbllaaGreatDoor
set_option linter.unusedVariables false

def isE (x : Ent) : Bool := decide (-1 ≤ x.1) && (decide (x.1 ≤ 64) && (decide (0 ≤ x.2) && decide (x.2 ≤ 1099511627776)))
theorem isE_iff {x : Ent} : isE x = true ↔ -1 ≤ x.1 ∧ x.1 ≤ 64 ∧ 0 ≤ x.2 ∧ x.2 ≤ 1099511627776 := by simp [isE]
theorem isE_ok {x : Ent} (h : okE x = true) : isE x = true := by
  rw [okE_iff] at h
  rw [isE_iff]
  omega
/-- The bytes of a number, the lowest one last. -/
def be8 (n : Nat) : List UInt8 := [UInt8.ofNat (n / 72057594037927936), UInt8.ofNat (n / 281474976710656), UInt8.ofNat (n / 1099511627776), UInt8.ofNat (n / 4294967296), UInt8.ofNat (n / 16777216), UInt8.ofNat (n / 65536), UInt8.ofNat (n / 256), UInt8.ofNat n]
def leafE (x : Ent) : List UInt8 := [0, 0, 0, 0, 0, 0, 0, UInt8.ofNat (x.1 + 1).toNat] ++ be8 x.2.toNat
theorem leafE_length (x : Ent) : (leafE x).length = 16 := rfl
theorem ofNat_inj {a b : Nat} (h : UInt8.ofNat a = UInt8.ofNat b) : a % 256 = b % 256 := by
  have := congrArg UInt8.toNat h
  simpa using this
theorem up256 {a b : Nat} (h1 : a / 256 = b / 256) (h2 : a % 256 = b % 256) : a = b := by omega
theorem leafE_inj {x y : Ent} (hx : isE x = true) (hy : isE y = true) (h : leafE x = leafE y) : x = y := by
  rw [isE_iff] at hx hy
  obtain ⟨a, b⟩ := x
  obtain ⟨c, d⟩ := y
  simp only at hx hy
  simp only [leafE, be8, List.cons_append, List.nil_append, List.cons.injEq, true_and, and_true] at h
  obtain ⟨h0, h1, h2, h3, h4, h5, h6, h7, h8⟩ := h
  have e0 := ofNat_inj h0
  have e1 := ofNat_inj h1
  have e2 := ofNat_inj h2
  have e3 := ofNat_inj h3
  have e4 := ofNat_inj h4
  have e5 := ofNat_inj h5
  have e6 := ofNat_inj h6
  have e7 := ofNat_inj h7
  have e8 := ofNat_inj h8
  have f0 : a = c := by clear e1 e2 e3 e4 e5 e6 e7 e8; omega
  have hb : b.toNat / 1099511627776 < 256 := by clear e0 e1 e2 e3 e4 e5 e6 e7 e8; omega
  have hd : d.toNat / 1099511627776 < 256 := by clear e0 e1 e2 e3 e4 e5 e6 e7 e8; omega
  rw [Nat.mod_eq_of_lt hb, Nat.mod_eq_of_lt hd] at e3
  have g4 : b.toNat / 4294967296 = d.toNat / 4294967296 := up256 (by rw [Nat.div_div_eq_div_mul, Nat.div_div_eq_div_mul]; exact e3) e4
  have g5 : b.toNat / 16777216 = d.toNat / 16777216 := up256 (by rw [Nat.div_div_eq_div_mul, Nat.div_div_eq_div_mul]; exact g4) e5
  have g6 : b.toNat / 65536 = d.toNat / 65536 := up256 (by rw [Nat.div_div_eq_div_mul, Nat.div_div_eq_div_mul]; exact g5) e6
  have g7 : b.toNat / 256 = d.toNat / 256 := up256 (by rw [Nat.div_div_eq_div_mul, Nat.div_div_eq_div_mul]; exact g6) e7
  have f1 : b.toNat = d.toNat := up256 g7 e8
  have f2 : b = d := by clear e1 e2 e3 e4 e5 e6 e7 e8 g4 g5 g6 g7; omega
  rw [f0, f2]
/-- The entries of a list with one at each end, and their leaves. -/
def endedE (l : List Ent) : List Ent := (-1, 0) :: (l ++ [(64, 0)])
def leavesE (l : List Ent) : List (List UInt8) := (endedE l).map leafE
theorem endedE_length (l : List Ent) : (endedE l).length = l.length + 2 := by simp [endedE]
theorem leavesE_length (l : List Ent) : (leavesE l).length = l.length + 2 := by rw [leavesE, List.length_map, endedE_length]
theorem leavesE_16 (l : List Ent) : All16 (leavesE l) := fun k hk => by
  obtain ⟨x, _, rfl⟩ := List.mem_map.1 hk
  exact leafE_length x
theorem validL_length {l : List Ent} (h : validL l = true) : l.length ≤ 64 := by
  suffices hs : ∀ (l : List Ent) (p : Int), upE p l = true → (∀ x ∈ l, x.1 < 64) → (l.length : Int) ≤ 63 - p ∨ l.length = 0 by
    have hv := validL_iff.1 h
    have hu : upE (-1) l = true := upE_of hv.2 fun x hx => by have := okE_iff.1 (hv.1 x hx); omega
    rcases hs l (-1) hu fun x hx => (okE_iff.1 (hv.1 x hx)).2.1 with h | h <;> omega
  intro l
  induction l with
  | nil => intro p _ _; exact .inr rfl
  | cons x l ih =>
    intro p hu hl
    simp only [upE, Bool.and_eq_true, decide_eq_true_eq] at hu
    have := hl x List.mem_cons_self
    left
    rw [List.length_cons]
    rcases ih x.1 hu.2 fun y hy => hl y (List.mem_cons_of_mem _ hy) with h | h <;> omega
theorem endedE_pair {l : List Ent} (h : validL l = true) : (endedE l).Pairwise fun x y => x.1 < y.1 := by
  have hv := validL_iff.1 h
  unfold endedE
  rw [List.pairwise_cons, pairwise_snoc]
  refine ⟨fun x hx => ?_, hv.2, fun x hx => (okE_iff.1 (hv.1 x hx)).2.1⟩
  rcases List.mem_append.1 hx with hx | hx
  · have := okE_iff.1 (hv.1 x hx); simp only; omega
  · rw [List.mem_singleton.1 hx]; simp
theorem endedE_is {l : List Ent} (h : validL l = true) : ∀ x ∈ endedE l, isE x = true := by
  intro x hx
  unfold endedE at hx
  rcases List.mem_cons.1 hx with rfl | hx
  · decide
  · rcases List.mem_append.1 hx with hx | hx
    · exact isE_ok ((validL_iff.1 h).1 x hx)
    · rw [List.mem_singleton.1 hx]; decide
/-- Between two neighbours there is no entry. -/
theorem between_none {l : List Ent} (h : validL l = true) {i : Nat} {u : Int} (hi : i + 1 < (endedE l).length) (h1 : ((endedE l)[i]'(by omega)).1 < u) (h2 : u < ((endedE l)[i + 1]'hi).1) : untilS l u = -1 := by
  refine untilS_none fun x hx hxu => ?_
  have hp := List.pairwise_iff_getElem.1 (endedE_pair h)
  have hm : x ∈ endedE l := by unfold endedE; simp [hx]
  obtain ⟨j, hj, rfl⟩ := List.mem_iff_getElem.1 hm
  rcases Nat.lt_or_ge i j with hij | hij
  · rcases Nat.lt_or_ge (i + 1) j with hij' | hij'
    · have := hp (i + 1) j hi hj hij'; omega
    · obtain rfl : j = i + 1 := by omega
      omega
  · rcases Nat.lt_or_ge j i with hij' | hij'
    · have := hp j i hj (by omega) hij'; omega
    · obtain rfl : j = i := by omega
      omega
/-- An accepted proof of absence is true, or two texts have one digest. -/
theorem absent_true {l : List Ent} (h : validL l = true) {u : Int} {low high : Ent} {i : Nat} {p q : List (List UInt8)} (hlo : isE low = true) (hhi : isE high = true) (h1 : low.1 < u) (h2 : u < high.1)
    (hi : i + 1 < l.length + 2) (hp : p.length = stepsS (l.length + 2) i) (hq : q.length = stepsS (l.length + 2) (i + 1)) (p16 : All16 p) (q16 : All16 q)
    (e1 : (climbS (leafE low) (l.length + 2) i p).1 = rootS (leavesE l)) (e2 : (climbS (leafE high) (l.length + 2) (i + 1) q).1 = rootS (leavesE l)) :
    untilS l u = -1 ∨ Clash (textsS (leavesE l) ++ ((climbS (leafE low) (l.length + 2) i p).2 ++ (climbS (leafE high) (l.length + 2) (i + 1) q).2)) := by
  have hn := leavesE_length l
  rcases climb_true _ (leavesE l) (leafE low) i p hn (by omega) hp p16 e1 with a | a
  · rcases climb_true _ (leavesE l) (leafE high) (i + 1) q hn hi hq q16 e2 with b | b
    · left
      have hel := endedE_length l
      have g1 : (leavesE l).getD i [] = leafE ((endedE l)[i]'(by omega)) := by
        rw [List.getD_eq_getElem?_getD, List.getElem?_eq_getElem (by omega)]
        simp [leavesE]
      have g2 : (leavesE l).getD (i + 1) [] = leafE ((endedE l)[i + 1]'(by omega)) := by
        rw [List.getD_eq_getElem?_getD, List.getElem?_eq_getElem (by omega)]
        simp [leavesE]
      have f1 := leafE_inj (endedE_is h _ (List.getElem_mem _)) hlo (g1.symm.trans a)
      have f2 := leafE_inj (endedE_is h _ (List.getElem_mem _)) hhi (g2.symm.trans b)
      exact between_none h (i := i) (by omega) (by rw [f1]; exact h1) (by rw [f2]; exact h2)
    · exact .inr (b.mono fun x hx => by rcases List.mem_append.1 hx with hx | hx; exact List.mem_append_left _ hx; exact List.mem_append_right _ (List.mem_append_right _ hx))
  · exact .inr (a.mono fun x hx => by rcases List.mem_append.1 hx with hx | hx; exact List.mem_append_left _ hx; exact List.mem_append_right _ (List.mem_append_left _ hx))
end Go.Proofs.YtinpiodfpnbllaaGreatDoor

/- Guarded operations in regions that draw. -/
namespace Go.Proofs.YtinpiodfpnbllaaGreatDoor
open Go.RowKit
set_option linter.unusedVariables false

section
variable {P : Program} {md : Region.Mode} {ops : Array Oper} {Q : Exit → Act → World → Prop} {S : World → Prop} {fuel : Nat} {listed : Array Bool} {a : Act} {w : World}
/-- A guarded load of a row that is wanted. -/
theorem hg_load (i : Nat) {oi : Oper} (g o : Nat) (cs : List Value) (ty : TypeId) (x : Operand) {d : TypeDesc} (hi : ops[i]? = some oi) (ho : oi.op = .load ty x) (hg : Region.wanted oi (yielded ops a.tmps) = true)
    (hs : Region.noSelect ops = true) (hf : Region.free md ops listed i = true) (hr : (Region.ready md ops listed).contains i = true) (hQ : ∀ c a w, Q (.panic c) (a.put oi.dst (.agg cs.toArray)) w → Q (.panic c) a w)
    (hx : a.eval x = .pointer (some ⟨g, o, none⟩)) (hS : ∀ w, S w → w.rangeAt g o cs) (hu : P.underlying ty = some d) (hd : d.isRow = true) (hn : (P.info? ty).map (·.size) = some cs.length) (hw : S w)
    (h : wpAnyH P md ops Q S fuel (listed.setIfInBounds i true) (a.put oi.dst (.agg cs.toArray)) w) : wpAnyH P md ops Q S (fuel + 1) listed a w :=
  wpAnyH_take hi hs hf hr hQ (yieldsIf_load_mid hg ty x ho g o hx cs d hS hu hd hn) hw h
/-- A guarded one that is wanted and yields a value. -/
theorem hg_take (i : Nat) {oi : Oper} (v : Value) (hi : ops[i]? = some oi) (hg : Region.wanted oi (yielded ops a.tmps) = true)
    (hs : Region.noSelect ops = true) (hf : Region.free md ops listed i = true) (hr : (Region.ready md ops listed).contains i = true) (hQ : ∀ c a w, Q (.panic c) (a.put oi.dst v) w → Q (.panic c) a w)
    (hy : ∀ w, S w → (execOp a.eval oi).run P w = .ok (.value v) w) (hw : S w)
    (h : wpAnyH P md ops Q S fuel (listed.setIfInBounds i true) (a.put oi.dst v) w) : wpAnyH P md ops Q S (fuel + 1) listed a w :=
  wpAnyH_take hi hs hf hr hQ (.inl ⟨hg, hy⟩) hw h
/-- A guarded one that is not wanted. -/
theorem hg_skip (i : Nat) {oi : Oper} (hi : ops[i]? = some oi) (hg : Region.wanted oi (yielded ops a.tmps) = false)
    (hs : Region.noSelect ops = true) (hf : Region.free md ops listed i = true) (hr : (Region.ready md ops listed).contains i = true) (hQ : ∀ c a w, Q (.panic c) (a.put oi.dst undef) w → Q (.panic c) a w)
    (hw : S w) (h : wpAnyH P md ops Q S fuel (listed.setIfInBounds i true) (a.put oi.dst undef) w) : wpAnyH P md ops Q S (fuel + 1) listed a w :=
  wpAnyH_take hi hs hf hr hQ (.inr ⟨hg, rfl⟩) hw h
/-- A guarded call that is wanted, the only one that may come up. -/
theorem hg_calls (i : Nat) {oi : Oper} (f : FuncId) (args : Array Value) (hi : ops[i]? = some oi) (hg : Region.wanted oi (yielded ops a.tmps) = true) (hr : Region.ready md ops listed = [i]) (hrun : (execOp a.eval oi).run P w = .ok (.enter f args) w)
    (h : Calls P f args w fun e w' => ∃ v, e = .returned v ∧ S w' ∧ wpAnyH P md ops Q S fuel (listed.setIfInBounds i true) (a.put oi.dst v) w') : wpAnyH P md ops Q S (fuel + 1) listed a w := by
  refine wpAnyH_all hr (by simp) fun j hj => ?_
  rw [List.mem_singleton] at hj
  subst hj
  unfold wpOp
  simp only [hi, hg, if_true]
  refine .inl ?_
  unfold Oper.wp
  rw [hrun]
  refine h.mono fun e w' hv => ?_
  obtain ⟨v, rfl, hk⟩ := hv
  exact hk
end
end Go.Proofs.YtinpiodfpnbllaaGreatDoor

/- Lists of keys that the call owns: append. -/
namespace Go.Proofs.YtinpiodfpnbllaaGreatDoor
open Go.RowKit
set_option linter.unusedVariables false

theorem OK16.below {B : Nat} {w w' : World} {A : Option Addr} {c : Nat} {ks : List (List UInt8)} (h : OK16 B w A c ks) (hb : Below w.heap.size w w') : OK16 B w' A c ks := ownsRow_below h hb
theorem OK16.le_ {B B' : Nat} {w : World} {A : Option Addr} {c : Nat} {ks : List (List UInt8)} (h : OK16 B w A c ks) (hB : B' ≤ B) : OK16 B' w A c ks :=
  ⟨h.1, h.2.elim Or.inl (fun ⟨g, cap, cur, hv, hg, r⟩ => Or.inr ⟨g, cap, cur, hv, Nat.le_trans hB hg, r⟩)⟩
theorem OK16.nil (B : Nat) (w : World) : OK16 B w none 0 [] := World.ownsRow_nil w B _ 16
theorem OK16.kr {B : Nat} {w : World} {A : Option Addr} {c : Nat} {ks : List (List UInt8)} (h : OK16 B w A c ks) (hk : Keys16 ks) (hl : ks.length ≤ 140737488351232) : KR w A c ks := ⟨Rd.of_own h hl, hk⟩
theorem src_key (w : World) {k : List UInt8} (hk : k.length = 16) : Src (w.alloc (.cells (cellsB k).toArray 24)) 16 (some ⟨w.heap.size, 0, none⟩) 1 (cellsK [k]) := by
  refine ⟨by rw [cellsK_one, cellsB_length, hk], .inr ⟨_, rfl, fun j u hu => ?_⟩⟩
  rw [Addr.add_lit, Nat.zero_add, (Blk.new w 24 (cellsB k).toArray).cell j]
  rw [cellsK_one] at hu
  simpa using hu
section
variable {md : Region.Mode} {ops : Array Oper} {Q : Exit → Act → World → Prop} {S : World → Prop} {fuel : Nat} {listed : Array Bool} {a : Act} {w : World}
/-- append to a list of keys that the call owns, the only operation that may come up. -/
theorem hd_appendK (i : Nat) {oi : Oper} (s x : Operand) (hi : ops[i]? = some oi) (ho : oi.op = .call { callee := .builtin .append, args := #[s, x], argTypes := #[25, 25] }) (hg : oi.guard = none) (hr : Region.ready md ops listed = [i])
    (B : Nat) (A : Option Addr) (n c : Nat) (ks : List (List UInt8)) (hn : ks.length = n) (hs : a.eval s = .slice A n c) (hown : OK16 B w A c ks)
    (X : Option Addr) (m d : Nat) (news : List (List UInt8)) (hm : news.length = m) (hx : a.eval x = .slice X m d) (hsrc : Src w 16 X m (cellsK news)) (hlen : n + m ≤ 1000000) (hB : B ≤ w.heap.size)
    (h : ∀ A' c' w', OK16 B w' A' c' (ks ++ news) → Below B w w' → S w' ∧ wpAnyH Tryz.prog md ops Q S fuel (listed.setIfInBounds i true) (a.put oi.dst (.slice A' (n + m) c')) w') : wpAnyH Tryz.prog md ops Q S (fuel + 1) listed a w := by
  obtain ⟨i0, hi0, hz0, hz1, hz2⟩ := info_parts key_info3
  subst hn hm
  obtain ⟨A', c', w', hrun, h2, h3, h4⟩ := run_append_src (P := Tryz.prog) w B 25 oi.type 24 i0 (.agg (cellsB zeroK).toArray) 16 16 Tryz.underlying25 hi0 hz0 hz1 hz2 rfl (by omega) A ks.length c (cellsK ks) hown X news.length d (cellsK news) hsrc (cells_oneK news) (by simp only [maxLen]; omega) (by omega) hB
  refine hd_one i hi hg hr ?_
  refine Lib.wp_append_run w s x 25 25 ho _ _ hs hx _ w' hrun ?_
  refine h A' c' w' ?_ (grown_below (Below.refl _ _) hown h3 hB (Nat.le_refl _))
  unfold OK16
  rw [cellsK_append, List.length_append]
  exact h2
end
end Go.Proofs.YtinpiodfpnbllaaGreatDoor

/- The stream portion by portion, in plain words. -/
namespace Go.Proofs.YtinpiodfpnbllaaGreatDoor
open Go.RowKit
set_option linter.unusedVariables false

theorem stream_at {k : List UInt8} {n : UInt64} {b : List UInt8} {i j : Nat} (hj : j < 16) (h : 16 * i + j < b.length) : (xorS (padK (b.drop (16 * i))) (encS k (tagS 1 (UInt64.ofNat i) n))).getD j 0 = stB1 k n b (16 * i + j) := by
  unfold stB1
  rw [show (16 * i + j) / 16 = i from by omega, show (16 * i + j) % 16 = j from by omega]
  simp [xorS, padK, List.getD, List.getElem?_range hj, List.getElem?_drop]
theorem stream_take {k : List UInt8} {n : UInt64} {b : List UInt8} {m : Nat} (h : m < b.length) : (streamS k n b).take (m + 1) = (streamS k n b).take m ++ [stB1 k n b m] := by
  rw [List.take_succ_eq_append_getElem (by rw [streamS_length]; exact h)]
  simp [streamS]
theorem stream_all {k : List UInt8} {n : UInt64} {b : List UInt8} {m : Nat} (h : b.length ≤ m) : (streamS k n b).take m = streamS k n b := List.take_of_length_le (by rw [streamS_length]; exact h)
end Go.Proofs.YtinpiodfpnbllaaGreatDoor

/- Recordings, in plain words. -/
namespace Go.Proofs.YtinpiodfpnbllaaGreatDoor
open Go.RowKit
set_option linter.unusedVariables false

/-- A recording, or the error. -/
structure RecV where
  x : List UInt8
  c : List UInt8
  d : List UInt8
  e : Int
/-- No recording. -/
def noRec (e : Int) : RecV := ⟨zeroK, zeroK, [], e⟩
def recS (k y b : List UInt8) : RecV := if 16384 < b.length then noRec 4 else ⟨encS k y, chkS y, streamS y 0 b, 0⟩
def rekS (k a x c b : List UInt8) : RecV := if chkS (decS k x) = c then ⟨encS a (decS k x), c, b, 0⟩ else noRec 53
def plyS (k x c b : List UInt8) : List UInt8 × Int := if 16384 < b.length then ([], 4) else if chkS (decS k x) = c then (streamS (decS k x) 0 b, 0) else ([], 53)
/-- What is handed back, in memory of the call's own. -/
def RecErr (B : Nat) (r : RecV) (e : Ending) (w' : World) : Prop := ∃ A c, e = .returned (.tuple #[.agg (recC r.x r.c A r.d.length c).toArray, .int .i64 r.e]) ∧ OB B w' A c r.d
theorem chkS_length (k : List UInt8) : (chkS k).length = 16 := rfl
theorem recS_x (k y b : List UInt8) : (recS k y b).x.length = 16 := by unfold recS noRec; split <;> rfl
theorem recS_c (k y b : List UInt8) : (recS k y b).c.length = 16 := by unfold recS noRec; split <;> rfl
theorem recS_d (k y b : List UInt8) : (recS k y b).d.length ≤ b.length := by
  unfold recS noRec
  split
  · simp
  · simp [streamS_length]
theorem rekS_x (k a x c b : List UInt8) : (rekS k a x c b).x.length = 16 := by unfold rekS noRec; split <;> rfl
theorem rekS_c (k a x c b : List UInt8) (hc : c.length = 16) : (rekS k a x c b).c.length = 16 := by
  unfold rekS noRec
  split
  · exact hc
  · rfl
theorem rekS_d (k a x c b : List UInt8) : (rekS k a x c b).d.length ≤ b.length := by
  unfold rekS noRec
  split <;> simp
theorem plyS_l (k x c b : List UInt8) : (plyS k x c b).1.length ≤ b.length := by
  unfold plyS
  split
  · simp
  · split
    · simp [streamS_length]
    · simp
end Go.Proofs.YtinpiodfpnbllaaGreatDoor

/- A recording, made of its parts. -/
namespace Go.Proofs.YtinpiodfpnbllaaGreatDoor
open Go.RowKit
set_option linter.unusedVariables false

theorem fill_step (place : Nat → Option (Nat × Nat)) (cells : Array Value) (i off size : Nat) (v : Value) (vs : List Value) (rest : List (Nat × Value)) (hp : place i = some (off, size)) (hv : v.cells = vs.toArray) (hs : vs.length = size) (hf : off + size ≤ cells.size) :
    Instr.fill place cells ((i, v) :: rest) = Instr.fill place (cells.toList.take off ++ (vs ++ cells.toList.drop (off + size))).toArray rest := by
  rw [Instr.fill, hp]
  simp only [hv, List.size_toArray]
  rw [if_neg (by simp [hs]; omega)]
  congr 1
  have e := Great.foldl_set off vs 0 cells
  rw [← Array.foldl_toList, Array.toList_zipIdx]
  apply Array.ext_getElem?
  intro k
  rw [e.2 k]
  simp only [List.getElem?_toArray, List.getElem?_append, List.length_take, Array.length_toList, List.getElem?_take, List.getElem?_drop, Array.getElem?_toList]
  by_cases h1 : k < off
  · rw [if_neg (by omega), if_pos (by omega), if_pos h1]
  · rw [if_neg (show ¬ k < min off cells.size by omega)]
    rw [show min off cells.size = off from by omega]
    by_cases h2 : k - off < vs.length
    · rw [if_pos (by omega), if_pos h2, Nat.add_zero]
    · rw [if_neg (by omega), if_neg h2, show off + size + (k - off - vs.length) = k from by omega]
theorem built_rec (x c : List UInt8) (A : Option Addr) (n cap : Nat) (hx : x.length = 16) (hc : c.length = 16) :
    Tryz.prog.built 86 [(0, .agg (cellsB x).toArray), (1, .agg (cellsB c).toArray), (2, .slice A n cap)] = some (recC x c A n cap).toArray := by
  have hxl : (cellsB x).length = 16 := by rw [cellsB_length, hx]
  have hcl : (cellsB c).length = 16 := by rw [cellsB_length, hc]
  have e : Tryz.prog.built 86 [(0, .agg (cellsB x).toArray), (1, .agg (cellsB c).toArray), (2, .slice A n cap)] = Instr.fill ((#[(0, 16), (16, 16), (32, 1)] : Array (Nat × Nat))[·]?) (recC zeroK zeroK none 0 0).toArray [(0, .agg (cellsB x).toArray), (1, .agg (cellsB c).toArray), (2, .slice A n cap)] := by kernel_rfl
  rw [e]
  obtain ⟨z, hz', hz⟩ : ∃ z : Array Value, (recC zeroK zeroK none 0 0).toArray = z ∧ z.size = 33 := ⟨_, rfl, rfl⟩
  rw [hz']
  rw [fill_step _ z 0 0 16 _ (cellsB x) _ rfl rfl hxl (by omega)]
  have s1 : (z.toList.take 0 ++ (cellsB x ++ z.toList.drop (0 + 16))).length = 33 := by simp [hxl, hz]
  rw [fill_step _ _ 1 16 16 _ (cellsB c) _ rfl rfl hcl (by rw [List.size_toArray, s1]; omega)]
  have s2 : (((z.toList.take 0 ++ (cellsB x ++ z.toList.drop (0 + 16))).toArray.toList.take 16 ++ (cellsB c ++ (z.toList.take 0 ++ (cellsB x ++ z.toList.drop (0 + 16))).toArray.toList.drop (16 + 16)))).length = 33 := by simp [hxl, hcl, hz]
  rw [fill_step _ _ 2 32 1 _ [.slice A n cap] _ rfl rfl rfl (by rw [List.size_toArray, s2]; omega)]
  rw [Instr.fill]
  refine congrArg (fun l => some (List.toArray l)) ?_
  simp [List.take_append, List.drop_append, List.take_of_length_le, List.drop_of_length_le, hxl, hcl, hz, recC]

theorem free_blk {w : World} {g : Nat} (hf : rowFree w g = true) : ∃ t, Blk w g t (rowAt w g) := by
  unfold rowFree at hf
  unfold Blk rowAt
  split at hf
  · rename_i cs t fr he
    have : fr = (0, 0) := by simpa using hf
    subst this
    exact ⟨t, by rw [he]⟩
  · cases hf
theorem run_storeCells_rec {P : Program} (w : World) (g : Nat) (l : List Value) (hl : l.length = 33) (h1 : l.all (·.oneCell') = true) (h : (rowAt w g).size = 33) (hf : rowFree w g = true) : (storeCells ⟨g, 0, none⟩ l 0).run P w = .ok () (w.setRow g l.toArray) := by
  obtain ⟨t, he⟩ := free_blk hf
  exact run_storeCells_from (P := P) g t l 0 _ w he (by omega) (fun v hv => List.all_eq_true.1 h1 v hv)
theorem zero33 : (#[.int .u8 0, .int .u8 0, .int .u8 0, .int .u8 0, .int .u8 0, .int .u8 0, .int .u8 0, .int .u8 0, .int .u8 0, .int .u8 0, .int .u8 0, .int .u8 0, .int .u8 0, .int .u8 0, .int .u8 0, .int .u8 0, .int .u8 0, .int .u8 0, .int .u8 0, .int .u8 0, .int .u8 0, .int .u8 0, .int .u8 0, .int .u8 0, .int .u8 0, .int .u8 0, .int .u8 0, .int .u8 0, .int .u8 0, .int .u8 0, .int .u8 0, .int .u8 0, .slice none 0 0] : Array Value) = (recC zeroK zeroK none 0 0).toArray := rfl
theorem recC_all (x c : List UInt8) (A : Option Addr) (n cap : Nat) : (recC x c A n cap).all (·.oneCell') = true := by
  rw [List.all_eq_true]
  intro v hv
  rw [recC, List.mem_append, List.mem_append] at hv
  rcases hv with hv | hv | hv
  · exact cells_one x v hv
  · exact cells_one c v hv
  · rw [List.mem_singleton] at hv; subst hv; rfl
section
variable {P : Program} {md : Region.Mode} {ops : Array Oper} {Q : Exit → Act → World → Prop} {S : World → Prop} {fuel : Nat} {listed : Array Bool} {a : Act} {w : World}
/-- A value is made of its parts. -/
theorem hd_build (i : Nat) {oi : Oper} (t : TypeId) (parts : Array (Nat × Operand)) (vs : List (Nat × Value)) (cells : Array Value) (hi : ops[i]? = some oi) (ho : oi.op = .build t parts) (hg : oi.guard = none)
    (hs : Region.noSelect ops = true) (hf : Region.free md ops listed i = true) (hr : (Region.ready md ops listed).contains i = true) (hQ : ∀ c a w, Q (.panic c) (a.put oi.dst (.agg cells)) w → Q (.panic c) a w)
    (hv : (parts.map fun (i, x) => (i, a.eval x)).toList = vs) (hb : P.built t vs = some cells) (hw : S w)
    (h : wpAnyH P md ops Q S fuel (listed.setIfInBounds i true) (a.put oi.dst (.agg cells)) w) : wpAnyH P md ops Q S (fuel + 1) listed a w :=
  hd_take i (.agg cells) hi hg hs hf hr hQ (fun w _ => by
    unfold execOp
    rw [ho]
    simp only [Sem.run_bind, run_build w t _ cells (by rw [hv]; exact hb), Result.andThen_ok]
    rfl) hw h
theorem hd_build3 (i : Nat) {oi : Oper} (t : TypeId) (v0 v1 v2 : Value) (cells : Array Value) (x0 x1 x2 : Operand) (hi : ops[i]? = some oi) (ho : oi.op = .build t #[(0, x0), (1, x1), (2, x2)]) (hg : oi.guard = none)
    (hs : Region.noSelect ops = true) (hf : Region.free md ops listed i = true) (hr : (Region.ready md ops listed).contains i = true) (hQ : ∀ c a w, Q (.panic c) (a.put oi.dst (.agg cells)) w → Q (.panic c) a w)
    (h0 : a.eval x0 = v0) (h1 : a.eval x1 = v1) (h2 : a.eval x2 = v2) (hb : P.built t [(0, v0), (1, v1), (2, v2)] = some cells) (hw : S w)
    (h : wpAnyH P md ops Q S fuel (listed.setIfInBounds i true) (a.put oi.dst (.agg cells)) w) : wpAnyH P md ops Q S (fuel + 1) listed a w :=
  hd_build i t _ _ cells hi ho hg hs hf hr hQ (by simp [h0, h1, h2]) hb hw h
end
theorem OB.low {B : Nat} {w : World} {A : Option Addr} {c : Nat} {l : List UInt8} (h : OB B w A c l) {g : Nat} (hg : g < B) (cs : Array Value) : OB B (w.setRow g cs) A c l :=
  ⟨h.1, h.2.elim Or.inl (fun ⟨g', cap, cur, hv, hB, hh, r⟩ => Or.inr ⟨g', cap, cur, hv, hB, by rw [← hh]; exact setRow_other w g g' cs (by omega), r⟩)⟩
end Go.Proofs.YtinpiodfpnbllaaGreatDoor

/- A list of one key, made. -/
namespace Go.Proofs.YtinpiodfpnbllaaGreatDoor
open Go.RowKit
set_option linter.unusedVariables false

theorem run_build_key (w : World) (k : List UInt8) (hk : k.length = 16) : (Instr.buildSlice 25 1 #[(0, .agg (cellsB k).toArray)]).run Tryz.prog w = .ok (.slice (some ⟨w.heap.size, 0, none⟩) 1 1) (w.alloc (.cells (cellsB k).toArray 24)) := by
  obtain ⟨i0, hi0, hz0, hz1, hz2⟩ := info_parts key_info3
  have hl : (cellsB k).length = 16 := by rw [cellsB_length, hk]
  refine run_buildSlice (P := Tryz.prog) w 25 24 1 #[(0, .agg (cellsB k).toArray)] (cellsB k).toArray i0 (.agg (cellsB zeroK).toArray) Tryz.underlying25 hi0 hz0 (by rw [hz1]; omega) (by rw [hz1]; omega) ?_
  rw [hz1]
  obtain ⟨z, hz, hzs⟩ : ∃ z, Array.map (fun x => (Value.agg (cellsB zeroK).toArray).cells[x % (Value.agg (cellsB zeroK).toArray).cells.size]!) (Array.range (1 * 16)) = z ∧ z.size = 16 := ⟨_, rfl, by simp⟩
  rw [hz]
  rw [show (#[(0, Value.agg (cellsB k).toArray)] : Array (Nat × Value)).toList = [(0, .agg (cellsB k).toArray)] from rfl, fill_step _ z 0 0 16 _ (cellsB k) _ rfl rfl hl (by omega), Instr.fill]
  refine congrArg (fun l => some (List.toArray l)) ?_
  simp [List.drop_of_length_le, hzs]
theorem op_buildKey {ops : Array Oper} {Q : Exit → Act → World → Prop} {a : Act} {w : World} {i : Nat} {oi : Oper} {K : Act → World → Prop} (k : List UInt8) (x : Operand) (hk : k.length = 16) (hi : ops[i]? = some oi) (ho : oi.op = .buildSlice 25 1 #[(0, x)]) (hg : oi.guard = none) (hx : a.eval x = .agg (cellsB k).toArray)
    (h : K (a.put oi.dst (.slice (some ⟨w.heap.size, 0, none⟩) 1 1)) (w.alloc (.cells (cellsB k).toArray 24))) : wpOp Tryz.prog ops Q i K a w :=
  op_run _ _ hi hg (by
    unfold execOp
    rw [ho]
    simp only [List.map_toArray, List.map_cons, List.map_nil, hx, Sem.run_bind, run_build_key w k hk, Result.andThen_ok]
    rfl) h
end Go.Proofs.YtinpiodfpnbllaaGreatDoor

/- A list of keys that the call owns, turned round. -/
namespace Go.Proofs.YtinpiodfpnbllaaGreatDoor
open Go.RowKit Go.Sort
set_option linter.unusedVariables false

def encK (k : List UInt8) : List Value := cellsB (padK k)
theorem encK_length (k : List UInt8) : (encK k).length = 16 := by rw [encK, cellsB_length, padK_length]
theorem encK_16 {k : List UInt8} (h : k.length = 16) : encK k = cellsB k := by rw [encK, padK_16 h]
theorem flatK_keys {ks : List (List UInt8)} (h : Keys16 ks) : flatK encK 16 ks.toArray = (cellsK ks).toArray := by
  have hl := cellsK_length h
  refine ext_get! (by simp [hl]) fun t ht => ?_
  have ht' : t < ks.length * 16 := by simpa using ht
  have hi : t / 16 < ks.length := by omega
  have hk : ks[t / 16].length = 16 := h _ (List.getElem_mem hi)
  rw [get_flatK _ _ _ _ (by simpa using ht')]
  have e1 : ks.toArray[t / 16]! = ks[t / 16] := by rw [getElem!_pos ks.toArray (t / 16) (by simpa using hi)]; simp
  have hm : t % 16 < (cellsB ks[t / 16]).length := by rw [cellsB_length, hk]; omega
  rw [e1, encK_16 hk, getElem!_pos (cellsB ks[t / 16]) (t % 16) hm, getElem!_pos (cellsK ks).toArray t (by simp [hl]; omega)]
  have h1 := cellsK_drop h (t / 16) (by omega)
  have h2 : ((cellsK ks).drop (t / 16 * 16))[t % 16]? = (cellsB ks[t / 16])[t % 16]? := by
    rw [h1, List.drop_eq_getElem_cons hi]
    unfold cellsK
    rw [List.flatMap_cons, List.getElem?_append_left hm]
  rw [List.getElem?_drop, show t / 16 * 16 + t % 16 = t by omega, List.getElem?_eq_getElem (by omega), List.getElem?_eq_getElem hm] at h2
  simpa using (Option.some.inj h2).symm
theorem Keys16.reverse {ks : List (List UInt8)} (h : Keys16 ks) : Keys16 ks.reverse := fun k hk => h k (List.mem_reverse.1 hk)

theorem holds_of_OK16 {B : Nat} {w : World} {A : Option Addr} {c : Nat} {ks : List (List UInt8)} (h : OK16 B w A c ks) (hk : Keys16 ks) (h0 : ks ≠ []) : ∃ g, A = some ⟨g, 0, none⟩ ∧ B ≤ g ∧ g < w.heap.size ∧ HoldsK encK 16 w g 0 ks.toArray := by
  rcases h.2 with ⟨_, e0⟩ | ⟨g, cap, cur, e0, hb, hg, hn, hm, hs, ht⟩
  · exact absurd (List.eq_nil_of_length_eq_zero e0) h0
  · injection e0 with e1 _ e3
    subst e3
    have hlt : g < w.heap.size := by
      rcases Nat.lt_or_ge g w.heap.size with h' | h'
      · exact h'
      · rw [Array.getElem?_eq_none h'] at hg; cases hg
    refine ⟨g, e1, hb, hlt, ?_⟩
    unfold HoldsK
    rw [flatK_keys hk]
    intro j hj
    have hl := cellsK_length hk
    have hj' : j < ks.length * 16 := by simpa [hl] using hj
    refine ⟨?_, by simp [World.frozen?, hg]⟩
    have e2 : (cur.toList.take (ks.length * 16))[j]? = (cellsK ks)[j]? := by rw [ht]
    rw [List.getElem?_take, if_pos (by omega), Array.getElem?_toList, List.getElem?_eq_getElem (by omega)] at e2
    simp only [World.cell?, hg, Nat.zero_add]
    simp only [Option.isSome_none, Bool.false_eq_true, if_false]
    rw [e2, getElem!_pos _ j (by simpa using hj)]
    simp
theorem OK16.put {B : Nat} {w : World} {g c q : Nat} {ks ys : List (List UInt8)} (h : OK16 B w (some ⟨g, 0, none⟩) c ks) (hk : Keys16 ys) (hl : ys.length = ks.length) : OK16 B (putRowK encK 16 (Sort.ahead w q) g 0 ys.toArray) (some ⟨g, 0, none⟩) c ys := by
  have hcl := cellsK_length hk
  refine ⟨hcl, .inr ?_⟩
  rcases h.2 with ⟨e0, _⟩ | ⟨g', cap', cur, e0, hb, hg, hn, hm, hs, ht⟩
  · cases e0
  · injection e0 with e1 _ e3
    injection e1 with e1
    injection e1 with e1
    subst e1; subst e3
    refine ⟨g, c, putCells id 0 (cellsK ys).toArray cur, rfl, hb, ?_, by omega, hm, by simpa [putCells] using hs, ?_⟩
    · unfold putRowK
      rw [flatK_keys hk]
      simp [putRow, mapBlock, Sort.ahead, Array.getElem?_modify, hg, onCells]
    · apply List.ext_getElem?
      intro j
      rw [List.getElem?_take, Array.getElem?_toList]
      by_cases hj : j < ys.length * 16
      · have hjc : j < cur.size := by omega
        simp only [if_pos hj, putCells, Array.getElem?_mapIdx, Array.getElem?_eq_getElem hjc, Option.map_some]
        rw [if_pos (by simp [hcl]; omega), List.getElem?_eq_getElem (by omega)]
        simp [getElem!_pos, show j < (cellsK ys).length by omega]
      · rw [if_neg hj, List.getElem?_eq_none (by omega)]
theorem below_putK {B : Nat} {w0 w : World} {g q : Nat} {d : Array (List UInt8)} (h : Below B w0 w) (hg : B ≤ g) : Below B w0 (putRowK encK 16 (Sort.ahead w q) g 0 d) := Lib.below_putRow h hg

theorem cells_holdsK {enc : List UInt8 → List Value} {k : Nat} {W : World} {blk off : Nat} {d : Array (List UInt8)} (h : HoldsK enc k W blk off d) (hk : ∀ x, (enc x).length = k) {i : Nat} (hi : i < d.size) :
    ∀ c v, (enc d[i]!)[c]? = some v → W.cell? ((⟨blk, off + i * k, none⟩ : Addr).add c) = some v := fun c v hv => by
  have hc : c < k := by have := (List.getElem?_eq_some_iff.1 hv).1; rwa [hk] at this
  rw [Addr.add_lit, (h.cell hi hc).1, getElem!_pos (enc d[i]!) c (by rw [hk]; exact hc)]
  rw [List.getElem?_eq_getElem (by rw [hk]; exact hc)] at hv
  exact hv
theorem stores_holds (P : Program) {W : World} {blk off : Nat} {F : Array Value} (h : Holds id W blk off F) (s : Nat) (vs : List Value) (hs : s + vs.length ≤ F.size) (h1 : ∀ v ∈ vs, v.oneCell' = true) :
    Sem.run P (storeCells ⟨blk, off + s, none⟩ vs 0) W = .ok () (W.setCells blk (off + s) vs) := by
  have := run_storeCells_cells (P := P) blk (off + s) vs 0 W (fun c hc => by rw [Nat.add_zero, Nat.add_assoc, (h (s + c) (by omega)).1]; rfl) (fun c hc => by rw [Nat.add_zero, Nat.add_assoc]; exact (h (s + c) (by omega)).2) h1
  rwa [Nat.add_zero] at this
theorem run_loadFrom (P : Program) (W : World) (a : Addr) (cs : List Value) (k : Nat) (hk : cs.length = k) (h : ∀ j v, cs[j]? = some v → W.cell? (a.add j) = some v) :
    Sem.run P (loadCellsFrom a 0 k #[]) W = .ok cs.toArray W := by
  have := run_loadCells_list (P := P) (w := W) a cs h
  rw [hk] at this
  simpa [loadCells] using this

section
variable {P : Program} {md : Region.Mode} {ops : Array Oper} {Q : Exit → Act → World → Prop} {S : World → Prop} {fuel : Nat} {listed : Array Bool} {a : Act} {w : World} {K : Act → World → Prop}
/-- A load of a part of a row, at its turn. -/
theorem op_load_mid (i : Nat) {oi : Oper} (g o : Nat) (cs : List Value) (ty : TypeId) (x : Operand) {d : TypeDesc} (hi : ops[i]? = some oi) (ho : oi.op = .load ty x) (hg : oi.guard = none)
    (hx : a.eval x = .pointer (some ⟨g, o, none⟩)) (hc : w.rangeAt g o cs) (hu : P.underlying ty = some d) (hd : d.isRow = true) (hn : (P.info? ty).map (·.size) = some cs.length)
    (h : K (a.put oi.dst (.agg cs.toArray)) w) : wpOp P ops Q i K a w :=
  wpOp_of_wp hi hg (wp_load_mid ty x ho g o hx cs d hc hu hd hn h)
/-- A store into a part of a row, at its turn. -/
theorem op_store_mid (i : Nat) {oi : Oper} (g o : Nat) (cells : Array Value) (ty : TypeId) (x y : Operand) (hi : ops[i]? = some oi) (ho : oi.op = .store ty x y) (hg : oi.guard = none)
    (hx : a.eval x = .pointer (some ⟨g, o, none⟩)) (hy : a.eval y = .agg cells) (ht : w.there g o cells.size) (hn : (P.info? ty).map (·.size) = some cells.size) (h1 : cells.all (·.oneCell') = true)
    (h : K (a.put oi.dst undef) (w.setCells g o cells.toList)) : wpOp P ops Q i K a w :=
  wpOp_of_wp hi hg (wp_store_mid ty x y ho g o cells hx hy ht hn h1 h)
end

theorem info16 {l : List Value} (h : l.length = 16) : (Tryz.prog.info? 24).map (·.size) = some l.length := by rw [h]; kernel_rfl
set_option maxHeartbeats 4000000 in
set_option maxRecDepth 1000000 in
theorem reverse_row (blk off cap : Nat) (d : Array (List UInt8)) (w : World) (hH : HoldsK encK 16 w blk off d) (hsz : d.size ≤ 140737488351232) :
    Calls Tryz.prog 114 #[.slice (some ⟨blk, off, none⟩) d.size cap] w fun e w' => e = .returned (.tuple #[]) ∧ ∃ n, w' = putRowK encK 16 (Sort.ahead w n) blk off d.reverse := by
  have h1 : ∀ x, ∀ v ∈ encK x, v.oneCell' = true := fun x => cells_one _
  have hk := encK_length
  have mixed : Tryz.prog.follows Departure.mixedOrders = true := by kernel_rfl
  go_enter Tryz.func114, Tryz.ntmps114
  go_wp2_with fail
  go_loopg [2, 3] d.size (fun kk s2 s3 wr => ∃ (i jn : Nat) (jz : Int) (dk : Array (List UInt8)) (n : Nat), s2 = .int .i64 i ∧ s3 = .int .i64 jz ∧ ((i : Int) < jz → jz = jn ∧ jn < d.size) ∧ (¬ (i : Int) < jz → ¬ i < jn) ∧ jn - i ≤ kk ∧
    dk.size = d.size ∧ wr = putRowK encK 16 (Sort.ahead w n) blk off dk ∧ reverseLoop i jn dk = reverseLoop 0 (d.size - 1) d)
  case atStart => exact ⟨0, d.size - 1, (d.size : Int) - 1, d, 0, rfl, rfl, fun h => ⟨by omega, by omega⟩, fun h => by omega, by omega, rfl, (putRowK_self encK 16 w blk off d hH).symm, rfl⟩
  case round =>
    obtain ⟨i, jn, jz, dk, n, rfl, rfl, h1', h2, hkk, hds, hwr, heq⟩ := hrel
    by_cases hlt : (i : Int) < jz
    · obtain ⟨rfl, hjn⟩ := h1' hlt
      have hij : i < jn := by omega
      have hHd : HoldsK encK 16 wr.drew blk off dk := by rw [hwr]; exact holdsK_putRowK encK 16 _ blk off d dk (holdsK_ahead encK 16 w (n + 1) blk off d hH) hds
      have HLI : Hid (wr.drew.rangeAt blk (off + i * 16) (encK dk[i]!)) := fun j v hv => by have := cells_holdsK hHd hk (i := i) (by omega) j v hv; rwa [Addr.add_mid] at this
      have HLJ : Hid (wr.drew.rangeAt blk (off + jn * 16) (encK dk[jn]!)) := fun j v hv => by have := cells_holdsK hHd hk (i := jn) (by omega) j v hv; rwa [Addr.add_mid] at this
      have HT1 : Hid (wr.drew.there blk (off + i * 16) 16) := fun j hj => by have := hHd.cell (i := i) (c := j) (by omega) hj; exact ⟨by rw [this.1]; rfl, this.2⟩
      have HT2 : Hid (wr.drew.there blk (off + jn * 16) 16) := fun j hj => by have := hHd.cell (i := jn) (c := j) (by omega) hj; exact ⟨by rw [this.1]; rfl, this.2⟩
      have A : Aside (wr = putRowK encK 16 (Sort.ahead w n) blk off dk) := hwr
      have HOI : Hid (∀ v ∈ encK dk[i]!, v.oneCell' = true) := h1 _
      have HOJ : Hid (∀ v ∈ encK dk[jn]!, v.oneCell' = true) := h1 _
      have HSI : Hid ((encK dk[i]!).length = 16) := hk _
      have HSJ : Hid ((encK dk[jn]!).length = 16) := hk _
      have hni : (d.size : Int) ≤ 140737488351232 := by omega
      have hji : (jn : Int) < d.size := by omega
      have hnid : i < d.size := by omega
      have hnii : ¬ d.size ≤ i := by omega
      have hnij : ¬ d.size ≤ jn := by omega
      have hll : (i : Int) < d.size := by omega
      clear hwr hHd hH h1' h2 h1 hk
      obtain ⟨ci, hci⟩ : ∃ c, c = encK dk[i]! := ⟨_, rfl⟩
      obtain ⟨cj, hcj⟩ : ∃ c, c = encK dk[jn]! := ⟨_, rfl⟩
      rw [← hci] at HLI HOI HSI
      rw [← hcj] at HLJ HOJ HSJ
      have CI : Hid (ci = encK dk[i]! ∧ cj = encK dk[jn]!) := ⟨hci, hcj⟩
      clear hci hcj
      go_wp2_with fail
      refine wp_region_noPanic ?_
      refine wp_region_held_drew (S := fun _ => True) (by kernel_rfl) trivial (fun hS => ?_)
      refine hd_take 0 (.slice (some ⟨blk, off, none⟩) d.size cap) rfl rfl (by kernel_rfl) (by kernel_rfl) (by kernel_rfl) (fun _ _ _ h => h) (fun w _ => by go_simp) hS ?_
      refine hd_take 1 (.int .i64 (i : Int)) rfl rfl (by kernel_rfl) (by kernel_rfl) (by kernel_rfl) (fun _ _ _ h => h) (fun w _ => by go_simp) hS ?_
      refine hd_take 2 (.slice (some ⟨blk, off, none⟩) d.size cap) rfl rfl (by kernel_rfl) (by kernel_rfl) (by kernel_rfl) (fun _ _ _ h => h) (fun w _ => by go_simp) hS ?_
      refine hd_take 3 (.int .i64 (jn : Int)) rfl rfl (by kernel_rfl) (by kernel_rfl) (by kernel_rfl) (fun _ _ _ h => h) (fun w _ => by go_simp) hS ?_
      refine hd_take 4 (.slice (some ⟨blk, off, none⟩) d.size cap) rfl rfl (by kernel_rfl) (by kernel_rfl) (by kernel_rfl) (fun _ _ _ h => h) (fun w _ => by go_simp) hS ?_
      refine hd_take 5 (.int .i64 (jn : Int)) rfl rfl (by kernel_rfl) (by kernel_rfl) (by kernel_rfl) (fun _ _ _ h => h) (fun w _ => by go_simp) hS ?_
      refine hd_take 8 (.slice (some ⟨blk, off, none⟩) d.size cap) rfl rfl (by kernel_rfl) (by kernel_rfl) (by kernel_rfl) (fun _ _ _ h => h) (fun w _ => by go_simp) hS ?_
      refine hd_take 9 (.int .i64 (i : Int)) rfl rfl (by kernel_rfl) (by kernel_rfl) (by kernel_rfl) (fun _ _ _ h => h) (fun w _ => by go_simp) hS ?_
      simp only [List.getElem_toArray, List.getElem_cons_succ, List.getElem_cons_zero, Act.put, List.setIfInBounds_toArray, List.set_cons_zero, List.set_cons_succ]
      refine hd_take 6 (.pointer (some ⟨blk, off + jn * 16, none⟩)) rfl rfl (by kernel_rfl) (by kernel_rfl) (by kernel_rfl) (fun _ _ _ h => h) (fun w _ => by go_simp) hS ?_
      refine hd_take 10 (.pointer (some ⟨blk, off + i * 16, none⟩)) rfl rfl (by kernel_rfl) (by kernel_rfl) (by kernel_rfl) (fun _ _ _ h => h) (fun w _ => by go_simp) hS ?_
      simp only [List.getElem_toArray, List.getElem_cons_succ, List.getElem_cons_zero, Act.put, List.setIfInBounds_toArray, List.set_cons_zero, List.set_cons_succ]
      refine hd_two 7 11 (by kernel_rfl) (op_load_mid 7 blk (off + jn * 16) cj 24 (.tmp 20) rfl rfl rfl rfl HLJ.out under_key rfl (info16 HSJ.out) ⟨trivial, ?_⟩) (op_load_mid 11 blk (off + i * 16) ci 24 (.tmp 24) rfl rfl rfl rfl HLI.out under_key rfl (info16 HSI.out) ⟨trivial, ?_⟩)
      · simp only [List.getElem_toArray, List.getElem_cons_succ, List.getElem_cons_zero, Act.put, List.setIfInBounds_toArray, List.set_cons_zero, List.set_cons_succ]
        refine hd_sole 11 (by kernel_rfl) (op_load_mid 11 blk (off + i * 16) ci 24 (.tmp 24) rfl rfl rfl rfl HLI.out under_key rfl (info16 HSI.out) ⟨trivial, ?_⟩)
        simp only [List.getElem_toArray, List.getElem_cons_succ, List.getElem_cons_zero, Act.put, List.setIfInBounds_toArray, List.set_cons_zero, List.set_cons_succ]
        refine hd_take 12 (.pointer (some ⟨blk, off + i * 16, none⟩)) rfl rfl (by kernel_rfl) (by kernel_rfl) (by kernel_rfl) (fun _ _ _ h => h) (fun w _ => by go_simp) trivial ?_
        simp only [List.getElem_toArray, List.getElem_cons_succ, List.getElem_cons_zero, Act.put, List.setIfInBounds_toArray, List.set_cons_zero, List.set_cons_succ]
        refine hd_sole 13 (by kernel_rfl) (op_store_mid 13 blk (off + i * 16) cj.toArray 24 (.tmp 26) (.tmp 21) rfl rfl rfl rfl rfl (by rw [List.size_toArray, HSJ.out]; exact HT1.out) (by rw [List.size_toArray]; exact info16 HSJ.out) (all_oneCell_toArray HOJ.out) ⟨trivial, ?_⟩)
        simp only [List.getElem_toArray, List.getElem_cons_succ, List.getElem_cons_zero, Act.put, List.setIfInBounds_toArray, List.set_cons_zero, List.set_cons_succ]
        refine hd_take 14 (.pointer (some ⟨blk, off + jn * 16, none⟩)) rfl rfl (by kernel_rfl) (by kernel_rfl) (by kernel_rfl) (fun _ _ _ h => h) (fun w _ => by go_simp) trivial ?_
        simp only [List.getElem_toArray, List.getElem_cons_succ, List.getElem_cons_zero, Act.put, List.setIfInBounds_toArray, List.set_cons_zero, List.set_cons_succ]
        refine hd_sole 15 (by kernel_rfl) (op_store_mid 15 blk (off + jn * 16) ci.toArray 24 (.tmp 27) (.tmp 25) rfl rfl rfl rfl rfl (by rw [List.size_toArray, HSI.out]; exact World.there_setCells HT2.out _ _ _) (by rw [List.size_toArray]; exact info16 HSI.out) (all_oneCell_toArray HOI.out) ⟨trivial, ?_⟩)
        refine wpAnyH_done (by kernel_rfl) (NoPanic.normal ?_) _
        simp only [List.getElem_toArray, List.getElem_cons_succ, List.getElem_cons_zero, Act.put, List.setIfInBounds_toArray, List.set_cons_zero, List.set_cons_succ]
        go_wp2_with fail
        go_roundg (jn - 1 - (i + 1))
        case measure => omega
        case rel =>
          rw [reverseLoop, if_pos hij] at heq
          refine ⟨i + 1, jn - 1, (jn : Int) - 1, swp dk i jn, n + 1, by simp, rfl, fun h => ⟨by omega, by omega⟩, fun h => by omega, Nat.le_refl _, by rw [size_swp]; exact hds, ?_, heq⟩
          rw [CI.out.1, CI.out.2, A.out]
          exact swap_worldK encK 16 encK_length w n 1 blk off dk i jn (by omega) (by omega)
      · simp only [List.getElem_toArray, List.getElem_cons_succ, List.getElem_cons_zero, Act.put, List.setIfInBounds_toArray, List.set_cons_zero, List.set_cons_succ]
        refine hd_sole 7 (by kernel_rfl) (op_load_mid 7 blk (off + jn * 16) cj 24 (.tmp 20) rfl rfl rfl rfl HLJ.out under_key rfl (info16 HSJ.out) ⟨trivial, ?_⟩)
        simp only [List.getElem_toArray, List.getElem_cons_succ, List.getElem_cons_zero, Act.put, List.setIfInBounds_toArray, List.set_cons_zero, List.set_cons_succ]
        refine hd_take 12 (.pointer (some ⟨blk, off + i * 16, none⟩)) rfl rfl (by kernel_rfl) (by kernel_rfl) (by kernel_rfl) (fun _ _ _ h => h) (fun w _ => by go_simp) trivial ?_
        simp only [List.getElem_toArray, List.getElem_cons_succ, List.getElem_cons_zero, Act.put, List.setIfInBounds_toArray, List.set_cons_zero, List.set_cons_succ]
        refine hd_sole 13 (by kernel_rfl) (op_store_mid 13 blk (off + i * 16) cj.toArray 24 (.tmp 26) (.tmp 21) rfl rfl rfl rfl rfl (by rw [List.size_toArray, HSJ.out]; exact HT1.out) (by rw [List.size_toArray]; exact info16 HSJ.out) (all_oneCell_toArray HOJ.out) ⟨trivial, ?_⟩)
        simp only [List.getElem_toArray, List.getElem_cons_succ, List.getElem_cons_zero, Act.put, List.setIfInBounds_toArray, List.set_cons_zero, List.set_cons_succ]
        refine hd_take 14 (.pointer (some ⟨blk, off + jn * 16, none⟩)) rfl rfl (by kernel_rfl) (by kernel_rfl) (by kernel_rfl) (fun _ _ _ h => h) (fun w _ => by go_simp) trivial ?_
        simp only [List.getElem_toArray, List.getElem_cons_succ, List.getElem_cons_zero, Act.put, List.setIfInBounds_toArray, List.set_cons_zero, List.set_cons_succ]
        refine hd_sole 15 (by kernel_rfl) (op_store_mid 15 blk (off + jn * 16) ci.toArray 24 (.tmp 27) (.tmp 25) rfl rfl rfl rfl rfl (by rw [List.size_toArray, HSI.out]; exact World.there_setCells HT2.out _ _ _) (by rw [List.size_toArray]; exact info16 HSI.out) (all_oneCell_toArray HOI.out) ⟨trivial, ?_⟩)
        refine wpAnyH_done (by kernel_rfl) (NoPanic.normal ?_) _
        simp only [List.getElem_toArray, List.getElem_cons_succ, List.getElem_cons_zero, Act.put, List.setIfInBounds_toArray, List.set_cons_zero, List.set_cons_succ]
        go_wp2_with fail
        go_roundg (jn - 1 - (i + 1))
        case measure => omega
        case rel =>
          rw [reverseLoop, if_pos hij] at heq
          refine ⟨i + 1, jn - 1, (jn : Int) - 1, swp dk i jn, n + 1, by simp, rfl, fun h => ⟨by omega, by omega⟩, fun h => by omega, Nat.le_refl _, by rw [size_swp]; exact hds, ?_, heq⟩
          rw [CI.out.1, CI.out.2, A.out]
          exact swap_worldK encK 16 encK_length w n 1 blk off dk i jn (by omega) (by omega)
    · have hnot := h2 hlt
      go_wp2
      go_end0
      refine ⟨rfl, n, ?_⟩
      rw [reverseLoop, if_neg hnot] at heq
      rw [← Lib.reverseLoop_reverse, ← heq]
theorem reverse_none (w : World) : Calls Tryz.prog 114 #[.slice none 0 0] w fun e w' => e = .returned (.tuple #[]) ∧ w' = w := by
  go_enter Tryz.func114, Tryz.ntmps114
  go_wp2
  go_loopg [2, 3] 0 (fun _ s2 s3 wr => s2 = .int .i64 0 ∧ s3 = .int .i64 (-1) ∧ wr = w)
  case atStart => exact ⟨rfl, rfl, rfl⟩
  case round =>
    obtain ⟨rfl, rfl, rfl⟩ := hrel
    go_wp2
    go_end0
    exact ⟨rfl, rfl⟩
theorem putRowK_nil (w : World) (g : Nat) : putRowK encK 16 w g 0 #[] = w := by
  refine putRowK_self encK 16 w g 0 #[] (fun j hj => ?_)
  simp [flatK] at hj
theorem reverse_any {B : Nat} (ks : List (List UInt8)) (A : Option Addr) (c : Nat) (w : World) {n : Nat} (hn : ks.length = n) (h : OK16 B w A c ks) (hk : Keys16 ks) (hl : n ≤ 140737488351232) :
    Calls Tryz.prog 114 #[.slice A n c] w fun e w' => e = .returned (.tuple #[]) ∧ OK16 B w' A c ks.reverse ∧ Below B w w' := by
  subst hn
  by_cases h0 : ks = []
  · subst h0
    rcases h.2 with ⟨e, _⟩ | ⟨g, cap, cur, e, hb, hg, hn, hm, hs, ht⟩
    · injection e with e1 e2 e3
      subst e1; subst e3
      refine (reverse_none w).mono ?_
      rintro e w' ⟨rfl, rfl⟩
      exact ⟨rfl, h, Below.refl _ _⟩
    · injection e with e1 e2 e3
      subst e1; subst e3
      refine (reverse_row g 0 c #[] w (fun j hj => by simp [flatK] at hj) (by simp)).mono ?_
      rintro e w' ⟨rfl, q, rfl⟩
      rw [show (#[] : Array (List UInt8)).reverse = #[] from rfl, putRowK_nil]
      exact ⟨rfl, h, ⟨rfl, rfl, rfl, Nat.le_refl _, fun _ _ => rfl⟩⟩
  · obtain ⟨g, rfl, hb, hg, hh⟩ := holds_of_OK16 h hk h0
    refine (reverse_row g 0 c ks.toArray w hh (by simpa using hl)).mono ?_
    rintro e w' ⟨rfl, q, rfl⟩
    rw [show ks.toArray.reverse = ks.reverse.toArray by simp]
    exact ⟨rfl, h.put hk.reverse (by simp), below_putK (Below.refl _ _) hb⟩
end Go.Proofs.YtinpiodfpnbllaaGreatDoor
