/-
  A recording under another key: the program's.
-/
import Derived.Test.YtinpiodfpnbllaaRecBuild
import Derived.Test.YtinpiodfpnbllaaAuditContent
import Derived.Test.YtinpiodfpnbllaaAuditClone
import Derived.Test.YtinpiodfpnbllaaSpeckEnc
import Derived.Laws.ResultCell
namespace Go.Proofs.Ytinpiodfpnbllaa
open Go.RowKit
set_option linter.unusedVariables false
attribute [local go_sem] run_storeCells_rec run_storeCells_key run_storeCells_new

theorem alloc4_bel (w : World) (o0 o1 o2 o3 : Obj) : Below w.heap.size w ((((w.alloc o0).alloc o1).alloc o2).alloc o3) := (alloc3_bel w o0 o1 o2).alloc (by simp; omega) _
theorem size_alloc4 (w : World) (o0 o1 o2 o3 : Obj) : ((((w.alloc o0).alloc o1).alloc o2).alloc o3).heap.size = w.heap.size + 1 + 1 + 1 + 1 := by simp
theorem blk_d0 (w : World) (cs : Array Value) (t : TypeId) (o1 o2 o3 : Obj) : Blk ((((w.alloc (.cells cs t)).alloc o1).alloc o2).alloc o3) w.heap.size t cs := (blk_a0 w cs t o1 o2).alloc o3
theorem blk_d1 (w : World) (o0 : Obj) (cs : Array Value) (t : TypeId) (o2 o3 : Obj) : Blk ((((w.alloc o0).alloc (.cells cs t)).alloc o2).alloc o3) (w.heap.size + 1) t cs := (blk_a1 w o0 cs t o2).alloc o3
theorem blk_d2 (w : World) (o0 o1 : Obj) (cs : Array Value) (t : TypeId) (o3 : Obj) : Blk ((((w.alloc o0).alloc o1).alloc (.cells cs t)).alloc o3) (w.heap.size + 1 + 1) t cs := (blk_a2 w o0 o1 cs t).alloc o3
theorem blk_d3 (w : World) (o0 o1 o2 : Obj) (cs : Array Value) (t : TypeId) : Blk ((((w.alloc o0).alloc o1).alloc o2).alloc (.cells cs t)) (w.heap.size + 1 + 1 + 1) t cs := by
  have := blk_a2 (w.alloc o0) o1 o2 cs t
  rwa [World.size_alloc] at this

set_option maxHeartbeats 2000000 in
set_option maxRecDepth 100000 in
theorem Rekey_yes (k a x c : List UInt8) (A : Option Addr) (m : Nat) (b : List UInt8) (w : World) {L : Nat} (hL : b.length = L) (h : BR w A m b) (hk : k.length = 16) (ha : a.length = 16) (hx : x.length = 16) (hc : c.length = 16) (hq : chkS (decS k x) = c) :
    Calls Try.prog 11 #[.agg (cellsB k).toArray, .agg (cellsB a).toArray, .agg (recC x c A L m).toArray] w fun e w' => RecErr w.heap.size (rekS k a x c b) e w' ∧ Below w.heap.size w w' := by
  have HL := Lib.hid hL
  have H := Lib.hid h
  have HK := Lib.hid hk
  have HA := Lib.hid ha
  have HX := Lib.hid hx
  have HC := Lib.hid hc
  have HZ := Lib.hid zero33
  have HZ16 := Lib.hid zero16
  have b0 := alloc4_bel w (.cells (cellsB k).toArray 23) (.cells (cellsB a).toArray 23) (.cells (recC x c A L m).toArray 26) (.cells (recC zeroK zeroK none 0 0).toArray 26)
  have HCT : Hid (∀ W, Calls Try.prog 58 #[.agg (cellsB k).toArray, .agg (recC x c A L m).toArray] W fun e w' => e = .returned (if chkS (decS k x) = c then .tuple #[.agg (cellsB (decS k x)).toArray, .int .i64 0] else .tuple #[.agg (cellsB zeroK).toArray, .int .i64 53]) ∧ Below W.heap.size W w') := fun W => content_any k x c A L m W hk hx hc
  have HS : Hid (rekS k a x c b = ⟨encS a (decS k x), c, b, 0⟩) := by unfold Hid rekS; rw [if_pos hq]
  rw [if_pos hq] at HCT
  have hdl : (decS k x).length = 16 := rfl
  have HEN : Hid (∀ W, Calls Try.prog 53 #[.agg (cellsB a).toArray, .agg (cellsB (decS k x)).toArray] W fun e w' => e = .returned (.agg (cellsB (encS a (decS k x))).toArray) ∧ Below W.heap.size W w') := fun W => Encrypt_any a (decS k x) W ha hdl
  have HEL : Hid ((encS a (decS k x)).length = 16) := rfl
  clear hq
  generalize encS a (decS k x) = E at HS HEN HEL
  generalize decS k x = d at HCT hdl HEN
  have HDL := Lib.hid hdl
  have hdc : (cellsB d).length = 16 := by rw [cellsB_length, hdl]
  have hall := all16 d
  clear hdl hL h hk ha hx hc
  go_enter Try.func11, Try.ntmps11
  go_wp2_with (first
    | (rw [HZ.out]; refine wpList_load_row rfl 23 (.tmp 3) rfl w.heap.size rfl 23 (cellsB k).toArray (0, 0) _ (blk_d0 w _ _ _ _ _) under_key rfl (cellsB_size _ HK.out) ?_)
    | (refine wpList_load_row rfl 26 (.tmp 5) rfl (w.heap.size + 1 + 1) rfl 26 (recC x c A L m).toArray (0, 0) _ (blk_d2 w _ _ _ _ _) Try.underlying26 rfl (rec_info _ _ _ HX.out HC.out) ?_)
    | (go_at_call 58; refine (HCT.out _).mono ?_; rintro e w1 ⟨rfl, hb1⟩; have B1 := Lib.hid ((blk_d1 w (.cells (cellsB k).toArray 23) (cellsB a).toArray 23 (.cells (recC x c A L m).toArray 26) (.cells (recC zeroK zeroK none 0 0).toArray 26)).below' hb1); have B2 := Lib.hid ((blk_d2 w (.cells (cellsB k).toArray 23) (.cells (cellsB a).toArray 23) (recC x c A L m).toArray 26 (.cells (recC zeroK zeroK none 0 0).toArray 26)).below' hb1); have B3 := Lib.hid ((blk_d3 w (.cells (cellsB k).toArray 23) (.cells (cellsB a).toArray 23) (.cells (recC x c A L m).toArray 26) (recC zeroK zeroK none 0 0).toArray 26).below' hb1)))
  have b1 : Below w.heap.size w w1 := b0.trans (hb1.mono b0.size)
  have hsz : w.heap.size + 1 + 1 + 1 < w1.heap.size := B3.out.lt
  obtain ⟨W4, hW4⟩ : ∃ W : World, W = w1.alloc (.cells (cellsB d).toArray 23) := ⟨_, rfl⟩
  have BD : Hid (Blk W4 w1.heap.size 23 (cellsB d).toArray) := by rw [hW4]; exact Blk.new _ _ _
  have C1 : Hid (Blk W4 (w.heap.size + 1) 23 (cellsB a).toArray) := by rw [hW4]; exact B1.out.alloc _
  have C2 : Hid (Blk W4 (w.heap.size + 1 + 1) 26 (recC x c A L m).toArray) := by rw [hW4]; exact B2.out.alloc _
  have C3 : Hid (Blk W4 (w.heap.size + 1 + 1 + 1) 26 (recC zeroK zeroK none 0 0).toArray) := by rw [hW4]; exact B3.out.alloc _
  have b4 : Below w.heap.size w W4 := by rw [hW4]; exact b1.alloc b1.size _
  have hsz4 : w.heap.size + 1 + 1 + 1 < W4.heap.size := C3.out.lt
  rw [← hW4]
  clear hW4 hall hdc
  refine wp_region_noPanic ?_
  refine wp_region_held_drew (S := fun w' => w'.rangeAt (w.heap.size + 1) 0 (cellsB a) ∧ w'.rangeAt w1.heap.size 0 (cellsB d) ∧ w'.rangeAt (w.heap.size + 1 + 1) 16 (cellsB c) ∧ w'.cell? ⟨w.heap.size + 1 + 1, 32, none⟩ = some (.slice A L m)) (by kernel_rfl) ⟨C1.out.drew.range, BD.out.drew.range, rec_check C2.out.drew HX.out, rec_data C2.out.drew HX.out HC.out⟩ (fun hS => ?_)
  refine hd_load 0 (w.heap.size + 1) 0 (cellsB a) _ _ rfl rfl rfl (by kernel_rfl) (by kernel_rfl) (by kernel_rfl) (fun _ _ _ h => h) rfl (fun w hw => hw.1) under_key rfl (key_info HA.out) hS ?_
  refine hd_load 1 w1.heap.size 0 (cellsB d) _ _ rfl rfl rfl (by kernel_rfl) (by kernel_rfl) (by kernel_rfl) (fun _ _ _ h => h) rfl (fun w hw => hw.2.1) under_key rfl (key_info HDL.out) hS ?_
  refine hd_take 3 (.pointer (some ⟨w.heap.size + 1 + 1, 16, none⟩)) rfl rfl (by kernel_rfl) (by kernel_rfl) (by kernel_rfl) (fun _ _ _ h => h) (fun w _ => by go_simp) hS ?_
  refine hd_load 4 (w.heap.size + 1 + 1) 16 (cellsB c) _ _ rfl rfl rfl (by kernel_rfl) (by kernel_rfl) (by kernel_rfl) (fun _ _ _ h => h) rfl (fun w hw => hw.2.2.1) under_key rfl (key_info HC.out) hS ?_
  refine hd_take 5 (.pointer (some ⟨w.heap.size + 1 + 1, 32, none⟩)) rfl rfl (by kernel_rfl) (by kernel_rfl) (by kernel_rfl) (fun _ _ _ h => h) (fun w _ => by go_simp) hS ?_
  refine hd_take 6 (.slice A L m) rfl rfl (by kernel_rfl) (by kernel_rfl) (by kernel_rfl) (fun _ _ _ h => h) (fun w hw => by have hw3 := hw.2.2.2; clear hw; go_simp) hS ?_
  simp only [List.getElem_toArray, List.getElem_cons_succ, List.getElem_cons_zero, Act.put, List.setIfInBounds_toArray, List.set_cons_zero, List.set_cons_succ]
  refine hd_calls 2 53 #[.agg (cellsB a).toArray, .agg (cellsB d).toArray] rfl rfl (by kernel_rfl) (by go_simp) ((HEN.out _).mono ?_)
  rintro e w5 ⟨rfl, hb5⟩
  have hS5 := And.intro (range_below hS.1 hb5) (And.intro (range_below hS.2.1 hb5) (And.intro (range_below hS.2.2.1 hb5) (rec_data (C2.out.drew.below' hb5) HX.out HC.out)))
  refine ⟨_, rfl, hS5, ?_⟩
  have hb05 : Below W4.heap.size W4 w5 := bel_on (Below.refl _ _).drew hb5
  have b5 := bel_on b4 hb05
  refine hd_calls 7 59 #[.slice A L m] rfl rfl (by kernel_rfl) (by go_simp) ((Clone_any A m b _ HL.out (H.out.below b5)).mono ?_)
  rintro e w6 ⟨⟨A6, c6, rfl, ho6⟩, hb6⟩
  have hS6 := And.intro (range_below hS5.1 hb6) (And.intro (range_below hS5.2.1 hb6) (And.intro (range_below hS5.2.2.1 hb6) (rec_data ((C2.out.drew.below' hb5).below' hb6) HX.out HC.out)))
  refine ⟨_, rfl, hS6, ?_⟩
  simp only [List.getElem_toArray, List.getElem_cons_succ, List.getElem_cons_zero, Act.put, List.setIfInBounds_toArray, List.set_cons_zero, List.set_cons_succ]
  refine hd_build3 8 26 (.agg (cellsB E).toArray) (.agg (cellsB c).toArray) (.slice A6 L c6) (recC E c A6 L c6).toArray _ _ _ rfl rfl rfl (by kernel_rfl) (by kernel_rfl) (by kernel_rfl) (fun _ _ _ h => h) rfl rfl rfl (built_rec _ _ _ _ _ HEL.out HC.out) hS6 ?_
  have r6 := (C3.out.drew.below' hb5).below' hb6
  have hS7 := And.intro (range_setRow hS6.1 (g' := w.heap.size + 1 + 1 + 1) (by omega) (recC E c A6 L c6).toArray) (And.intro (range_setRow hS6.2.1 (g' := w.heap.size + 1 + 1 + 1) (by omega) (recC E c A6 L c6).toArray) (And.intro (range_setRow hS6.2.2.1 (g' := w.heap.size + 1 + 1 + 1) (by omega) (recC E c A6 L c6).toArray) (show (w6.setRow (w.heap.size + 1 + 1 + 1) (recC E c A6 L c6).toArray).cell? ⟨w.heap.size + 1 + 1, 32, none⟩ = some (.slice A L m) from by rw [← hS6.2.2.2]; exact World.cell?_of_block (setRow_other w6 (w.heap.size + 1 + 1 + 1) (w.heap.size + 1 + 1) (recC E c A6 L c6).toArray (by omega)))))
  simp only [List.getElem_toArray, List.getElem_cons_succ, List.getElem_cons_zero, Act.put, List.setIfInBounds_toArray, List.set_cons_zero, List.set_cons_succ]
  refine hd_store 9 (w.heap.size + 1 + 1 + 1) (recC E c A6 L c6).toArray _ _ _ rfl rfl rfl (by kernel_rfl) rfl rfl r6 (rec_info _ _ _ HEL.out HC.out) (by rw [List.size_toArray, List.size_toArray, recC_length _ _ _ HEL.out HC.out]; rfl) (by simpa using recC_all _ _ _ _ _) hS7 ?_
  refine hd_take 10 (.int .i64 0) rfl rfl (by kernel_rfl) (by kernel_rfl) (by kernel_rfl) (fun _ _ _ h => h) (fun w _ => by go_simp) hS7 ?_
  refine wpAnyH_done (by kernel_rfl) (NoPanic.normal ?_) _
  simp only [List.getElem_toArray, List.getElem_cons_succ, List.getElem_cons_zero, Act.put, List.setIfInBounds_toArray, List.set_cons_zero, List.set_cons_succ]
  have b6 := bel_on b5 hb6
  have HO2 := Lib.hid (OB.le_ (B' := w.heap.size) (ho6.low (g := w.heap.size + 1 + 1 + 1) (Nat.lt_of_lt_of_le hsz4 hb05.size) (recC E c A6 L c6).toArray) b5.size)
  go_wp2_with fail
  refine bodyPost_ret (v := .tuple #[.agg (recC E c A6 L c6).toArray, .int .i64 0]) ?_ rfl ⟨⟨A6, c6, by rw [HS.out]; show _ = Ending.returned (.tuple #[.agg (recC E c A6 b.length c6).toArray, .int .i64 0]); rw [HL.out], by rw [HS.out]; exact HO2.out⟩, below_setRow b6 (by omega) _⟩
  rw [results_cell_tmp Try.results11]
  simp [asAddr, Result.andThen, run_loadVar_row _ (w.heap.size + 1 + 1 + 1) _ _ _ (0, 0) _ (r6.setRow (recC E c A6 L c6).toArray) Try.underlying26 rfl (rec_info _ _ _ HEL.out HC.out)]

set_option maxHeartbeats 2000000 in
set_option maxRecDepth 100000 in
theorem Rekey_no (k a x c : List UInt8) (A : Option Addr) (m : Nat) (b : List UInt8) (w : World) {L : Nat} (hL : b.length = L) (h : BR w A m b) (hk : k.length = 16) (ha : a.length = 16) (hx : x.length = 16) (hc : c.length = 16) (hq : ¬ chkS (decS k x) = c) :
    Calls Try.prog 11 #[.agg (cellsB k).toArray, .agg (cellsB a).toArray, .agg (recC x c A L m).toArray] w fun e w' => RecErr w.heap.size (rekS k a x c b) e w' ∧ Below w.heap.size w w' := by
  have HL := Lib.hid hL
  have H := Lib.hid h
  have HK := Lib.hid hk
  have HA := Lib.hid ha
  have HX := Lib.hid hx
  have HC := Lib.hid hc
  have HZ := Lib.hid zero33
  have HZ16 := Lib.hid zero16
  have b0 := alloc4_bel w (.cells (cellsB k).toArray 23) (.cells (cellsB a).toArray 23) (.cells (recC x c A L m).toArray 26) (.cells (recC zeroK zeroK none 0 0).toArray 26)
  have HCT : Hid (∀ W, Calls Try.prog 58 #[.agg (cellsB k).toArray, .agg (recC x c A L m).toArray] W fun e w' => e = .returned (if chkS (decS k x) = c then .tuple #[.agg (cellsB (decS k x)).toArray, .int .i64 0] else .tuple #[.agg (cellsB zeroK).toArray, .int .i64 53]) ∧ Below W.heap.size W w') := fun W => content_any k x c A L m W hk hx hc
  have HS : Hid (rekS k a x c b = noRec 53) := by unfold Hid rekS; rw [if_neg hq]
  rw [if_neg hq] at HCT
  have hlz : (recC zeroK zeroK none 0 0).length = 33 := rfl
  have haz := recC_all zeroK zeroK none 0 0
  have hdc : (cellsB zeroK).length = 16 := rfl
  have hall := all16 zeroK
  clear hq hL h hk ha hx hc
  go_enter Try.func11, Try.ntmps11
  go_wp2_with (first
    | (rw [HZ.out]; refine wpList_load_row rfl 23 (.tmp 3) rfl w.heap.size rfl 23 (cellsB k).toArray (0, 0) _ (blk_d0 w _ _ _ _ _) under_key rfl (cellsB_size _ HK.out) ?_)
    | (refine wpList_load_row rfl 26 (.tmp 5) rfl (w.heap.size + 1 + 1) rfl 26 (recC x c A L m).toArray (0, 0) _ (blk_d2 w _ _ _ _ _) Try.underlying26 rfl (rec_info _ _ _ HX.out HC.out) ?_)
    | (go_at_call 58; refine (HCT.out _).mono ?_; rintro e w1 ⟨rfl, hb1⟩; have B3 := ((blk_d3 w (.cells (cellsB k).toArray 23) (.cells (cellsB a).toArray 23) (.cells (recC x c A L m).toArray 26) (recC zeroK zeroK none 0 0).toArray 26).below' hb1).alloc (.cells (cellsB zeroK).toArray 23); have hr3 : (rowAt (w1.alloc (.cells (cellsB zeroK).toArray 23)) (w.heap.size + 1 + 1 + 1)).size = 33 := by { rw [B3.row]; rfl }; have hf3 := B3.free; have HB3 := Lib.hid B3; clear B3)
    | (refine wpList_buildTo rfl 26 #[] rfl (some 18) rfl (recC zeroK zeroK none 0 0).toArray (by kernel_rfl) ?_))
  have b1 : Below w.heap.size w w1 := b0.trans (hb1.mono b0.size)
  refine bodyPost_ret (v := .tuple #[.agg (recC zeroK zeroK none 0 0).toArray, .int .i64 53]) ?_ rfl ⟨⟨none, 0, by rw [HS.out]; rfl, by rw [HS.out]; exact OB.nil' _ _⟩, below_setRow (b1.alloc b1.size _) (by omega) _⟩
  rw [results_cell_tmp Try.results11]
  simp [asAddr, Result.andThen, run_loadVar_row _ (w.heap.size + 1 + 1 + 1) _ _ _ (0, 0) _ (HB3.out.setRow (recC zeroK zeroK none 0 0).toArray) Try.underlying26 rfl (rec_info none 0 0 zeroK_length zeroK_length)]

theorem Rekey_any (k a x c : List UInt8) (A : Option Addr) (m : Nat) (b : List UInt8) (w : World) {L : Nat} (hL : b.length = L) (h : BR w A m b) (hk : k.length = 16) (ha : a.length = 16) (hx : x.length = 16) (hc : c.length = 16) :
    Calls Try.prog 11 #[.agg (cellsB k).toArray, .agg (cellsB a).toArray, .agg (recC x c A L m).toArray] w fun e w' => RecErr w.heap.size (rekS k a x c b) e w' ∧ Below w.heap.size w w' := by
  by_cases hq : chkS (decS k x) = c
  · exact Rekey_yes k a x c A m b w hL h hk ha hx hc hq
  · exact Rekey_no k a x c A m b w hL h hk ha hx hc hq
end Go.Proofs.Ytinpiodfpnbllaa
