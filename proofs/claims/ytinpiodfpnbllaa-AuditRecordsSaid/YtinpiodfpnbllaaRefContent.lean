/-
  The content key of a recording: the reference's.
-/
import Derived.Test.YtinpiodfpnbllaaHeldKit
import Derived.Test.YtinpiodfpnbllaaRefSpeckDec
import Derived.Test.YtinpiodfpnbllaaRefSpeck5
import Derived.Test.YtinpiodfpnbllaaAuditWords
import Derived.Test.YtinpiodfpnbllaaArrEq
import Derived.Laws.ResultCell
namespace Go.Proofs.Ytinpiodfpnbllaa
open Go.RowKit
set_option linter.unusedVariables false
attribute [local go_sem] run_storeCells_key run_storeCells_new

theorem equalIn_keys (w : World) (a b : List UInt8) (ha : Hid (a.length = 16)) (hb : Hid (b.length = 16)) : (Op.equalIn 10000 23 (.agg (cellsB a).toArray) (.agg (cellsB b).toArray)).run Try.prog w = .ok (a == b) w := by
  have := run_equalIn_bytes (P := Try.prog) w 9998 23 5 16 Try.underlying23 Try.underlying5 (size_one (by kernel_rfl)) a b ha.out hb.out
  unfold cellsB
  have e : (fun x : UInt8 => Value.int .u8 (x.toNat : Int)) = Extern.Stop.cell := rfl
  rw [e, this]
attribute [local go_sem] equalIn_keys

set_option maxHeartbeats 1000000 in
set_option maxRecDepth 100000 in
theorem refContent_any (k x c : List UInt8) (A : Option Addr) (n cap : Nat) (w : World) (hk : k.length = 16) (hx : x.length = 16) (hc : c.length = 16) :
    Calls Try.prog 60 #[.agg (cellsB k).toArray, .agg (recC x c A n cap).toArray] w fun e w' => e = .returned (.tuple #[.agg (cellsB (decS k x)).toArray, .bool (chkS (decS k x) == c)]) ∧ Below w.heap.size w w' := by
  have HK := Lib.hid hk
  have HX := Lib.hid hx
  have HC := Lib.hid hc
  have HZ := Lib.hid zero16
  have b0 := alloc3_bel w (.cells (cellsB k).toArray 23) (.cells (recC x c A n cap).toArray 26) (.cells (cellsB zeroK).toArray 23)
  obtain ⟨d, hd⟩ : ∃ d, decS k x = d := ⟨_, rfl⟩
  have hdl : d.length = 16 := by rw [← hd]; rfl
  have HDD := Lib.hid hd
  have HDL := Lib.hid hdl
  have hdc : (cellsB d).length = 16 := by rw [cellsB_length, hdl]
  have hall := all16 d
  rw [hd]
  obtain ⟨q, hq⟩ : ∃ q, chkS d = q := ⟨_, rfl⟩
  have hql : q.length = 16 := by rw [← hq]; rfl
  have HCK : Hid (∀ W, Calls Try.prog 57 #[.agg (cellsB d).toArray, .int .u8 53, .int .u64 0] W fun e w' => e = .returned (.agg (cellsB q).toArray) ∧ Below W.heap.size W w') := fun W => by rw [← hq]; exact refDerive_any d 53 0 W hdl
  rw [hq]
  have HQL := Lib.hid hql
  clear hq hql
  clear hk hx hc hd hdl
  go_enter Try.func60, Try.ntmps60
  go_wp2_with (first
    | (refine wpList_load_row rfl 23 (.tmp 2) rfl w.heap.size rfl 23 (cellsB k).toArray (0, 0) _ (blk_a0 w _ _ _ _) under_key rfl (cellsB_size _ HK.out) ?_)
    | (refine wpList_load_mid rfl 23 (.tmp 8) rfl (w.heap.size + 1) 0 rfl (cellsB x) _ (rec_box (blk_a1 w _ (recC x c A n cap).toArray 26 _)) under_key rfl (key_info HX.out) ?_)
    | (go_at_call 121; refine (refDecrypt_any k x _ HK.out HX.out).mono ?_; rintro e w1 ⟨rfl, hb1⟩; rw [HDD.out]))
  have b1 : Below w.heap.size w w1 := b0.trans (hb1.mono b0.size)
  obtain ⟨W4, hW4⟩ : ∃ W : World, W = w1.alloc (.cells (cellsB d).toArray 23) := ⟨_, rfl⟩
  have BD : Hid (Blk W4 w1.heap.size 23 (cellsB d).toArray) := by rw [hW4]; exact Blk.new _ _ _
  have BC : Hid (Blk W4 (w.heap.size + 1) 26 (recC x c A n cap).toArray) := by rw [hW4]; exact ((blk_a1 w _ (recC x c A n cap).toArray 26 _).below' hb1).alloc _
  have BR0 : Hid (Blk W4 (w.heap.size + 1 + 1) 23 (cellsB zeroK).toArray) := by rw [hW4]; rw [← HZ.out]; exact ((blk_a2 w _ _ _ _).below' hb1).alloc _
  have b4 : Below w.heap.size w W4 := by rw [hW4]; exact b1.alloc b1.size _
  rw [← hW4]
  clear hW4
  have hu := under_key
  have hi1 : (Try.prog.info? 23).map (·.size) = some 16 := by kernel_rfl
  have hql : (cellsB q).length = 16 := by rw [cellsB_length, HQL.out]
  have hcl : (cellsB c).length = 16 := by rw [cellsB_length, HC.out]
  have c0 := (rec_check BC.out HX.out)
  have r0 := BR0.out
  refine wp_region_noPanic ?_
  refine wp_region_held_drew (S := fun w' => w'.rangeAt w1.heap.size 0 (cellsB d) ∧ w'.rangeAt (w.heap.size + 1) 16 (cellsB c)) (by kernel_rfl) ⟨BD.out.drew.range, (rec_check BC.out.drew HX.out)⟩ (fun hS => ?_)
  refine hd_load 0 w1.heap.size 0 (cellsB d) _ _ rfl rfl rfl (by kernel_rfl) (by kernel_rfl) (by kernel_rfl) (fun _ _ _ h => h) rfl (fun w hw => hw.1) under_key rfl (key_info HDL.out) hS ?_
  refine hd_load 1 w1.heap.size 0 (cellsB d) _ _ rfl rfl rfl (by kernel_rfl) (by kernel_rfl) (by kernel_rfl) (fun _ _ _ h => h) rfl (fun w hw => hw.1) under_key rfl (key_info HDL.out) hS ?_
  refine hd_take 3 (.pointer (some ⟨w.heap.size + 1, 16, none⟩)) rfl rfl (by kernel_rfl) (by kernel_rfl) (by kernel_rfl) (fun _ _ _ h => h) (fun w _ => by go_simp) hS ?_
  refine hd_load 4 (w.heap.size + 1) 16 (cellsB c) _ _ rfl rfl rfl (by kernel_rfl) (by kernel_rfl) (by kernel_rfl) (fun _ _ _ h => h) rfl (fun w hw => hw.2) under_key rfl (key_info HC.out) hS ?_
  refine hd_calls 2 57 #[.agg (cellsB d).toArray, .int .u8 53, .int .u64 0] rfl rfl (by kernel_rfl) (by go_simp) ((HCK.out _).mono ?_)
  rintro e w5 ⟨rfl, hb5⟩
  have hS5 := And.intro (range_below hS.1 hb5) (range_below hS.2 hb5)
  refine ⟨_, rfl, hS5, ?_⟩
  refine hd_take 5 (.bool (q == c)) rfl rfl (by kernel_rfl) (by kernel_rfl) (by kernel_rfl) (fun _ _ _ h => h) (fun w _ => by go_simp) hS5 ?_
  have r5 := BR0.out.drew.below' hb5
  have hS6 := And.intro (range_setRow hS5.1 (g' := w.heap.size + 1 + 1) (by have := b1.size; have := (blk_a2 w (.cells (cellsB k).toArray 23) (.cells (recC x c A n cap).toArray 26) (cellsB zeroK).toArray 23).lt; have := hb1.size; simp only [World.size_alloc] at *; omega) (cellsB d).toArray) (range_setRow hS5.2 (g' := w.heap.size + 1 + 1) (by omega) (cellsB d).toArray)
  refine hd_store 6 (w.heap.size + 1 + 1) (cellsB d).toArray _ _ _ rfl rfl rfl (by kernel_rfl) rfl rfl r5 (cellsB_size _ HDL.out) (by rw [List.size_toArray, List.size_toArray, hdc]; rfl) (all_oneCell_toArray (cells_one d)) hS6 ?_
  refine hd_take 7 (.bool (q == c)) rfl rfl (by kernel_rfl) (by kernel_rfl) (by kernel_rfl) (fun _ _ _ h => h) (fun w _ => by go_simp) hS6 ?_
  refine wpAnyH_done (by kernel_rfl) (NoPanic.normal ?_) _
  simp only [List.getElem_toArray, List.getElem_cons_succ, List.getElem_cons_zero, Act.put, List.setIfInBounds_toArray, List.set_cons_zero, List.set_cons_succ]
  go_wp2_with fail
  refine bodyPost_ret (v := .tuple #[.agg (cellsB d).toArray, .bool (q == c)]) ?_ rfl ⟨rfl, below_setRow (b4.drew.trans (hb5.mono b4.size)) (by omega) _⟩
  rw [results_cell_tmp Try.results60]
  simp [asAddr, Result.andThen, run_loadVar_row _ (w.heap.size + 1 + 1) _ _ _ (0, 0) _ (r5.setRow (cellsB d).toArray) under_key rfl (cellsB_size _ HDL.out)]
end Go.Proofs.Ytinpiodfpnbllaa
