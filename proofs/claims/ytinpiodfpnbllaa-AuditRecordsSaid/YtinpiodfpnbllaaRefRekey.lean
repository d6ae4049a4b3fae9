/-
  A recording under another key: the reference's.
-/
import Derived.Test.YtinpiodfpnbllaaAuditRekey
import Derived.Test.YtinpiodfpnbllaaRefContent
import Derived.Test.YtinpiodfpnbllaaRefSpeck4
import Derived.Laws.CopyRow
namespace Go.Proofs.Ytinpiodfpnbllaa
open Go.RowKit
set_option linter.unusedVariables false
attribute [local go_sem] run_storeCells_rec run_storeCells_key run_storeCells_new

theorem setCells_mid {w : World} {g : Nat} {t : TypeId} {old : Array Value} (h : Blk w g t old) (l : List Value) (hs : l.length ≤ old.size) (h1 : ∀ v ∈ l, v.oneCell' = true) : w.setCells g 0 l = w.setRow g (l ++ old.toList.drop l.length).toArray := by
  have a := run_storeCells_at (P := Try.prog) g 0 t l 0 old w h (by omega) h1
  have b := run_storeCells_cells (P := Try.prog) g 0 l 0 w (fun j hj => by simpa using (h.there (o := 0) (n := l.length) (by omega) j hj).1) (fun j hj => by simpa using (h.there (o := 0) (n := l.length) (by omega) j hj).2) h1
  simp only [List.take_zero, List.nil_append, Nat.add_zero, Nat.zero_add] at a b
  rw [b] at a
  injection a with _ a
theorem recC_put {x c : List UInt8} (E : List UInt8) (A : Option Addr) (n cap : Nat) (hx : x.length = 16) (hE : E.length = 16) : (cellsB E ++ (recC x c A n cap).toArray.toList.drop (cellsB E).length).toArray = (recC E c A n cap).toArray := by
  have h1 : (cellsB x).length = 16 := by rw [cellsB_length, hx]
  have h2 : (cellsB E).length = 16 := by rw [cellsB_length, hE]
  rw [h2]
  show (cellsB E ++ (cellsB x ++ (cellsB c ++ [Value.slice A n cap])).drop 16).toArray = _
  rw [List.drop_append_of_le_length (by omega), List.drop_of_length_le (by omega)]
  rfl
theorem recC_set {x c : List UInt8} (A : Option Addr) (n cap : Nat) (v : Value) (hx : x.length = 16) (hc : c.length = 16) : (recC x c A n cap).toArray.setIfInBounds 32 v = (cellsB x ++ (cellsB c ++ [v])).toArray := by
  have h1 : (cellsB x).length = 16 := by rw [cellsB_length, hx]
  have h2 : (cellsB c).length = 16 := by rw [cellsB_length, hc]
  rw [List.setIfInBounds_toArray, recC, List.set_append_right _ _ (by omega), List.set_append_right _ _ (by omega), h1, h2]
  rfl

theorem OB.lowc {B : Nat} {w : World} {A : Option Addr} {c : Nat} {l : List UInt8} (h : OB B w A c l) {p : Addr} (hg : p.block < B) (u : Value) : OB B (w.setCell p u) A c l :=
  ⟨h.1, h.2.elim Or.inl (fun ⟨g', cap, cur, hv, hB, hh, r⟩ => Or.inr ⟨g', cap, cur, hv, hB, by rw [← hh]; exact Below.heap_setCell w p u g' (by omega), r⟩)⟩

set_option maxHeartbeats 2000000 in
set_option maxRecDepth 100000 in
theorem refRekey_yes (k a x c : List UInt8) (A : Option Addr) (m : Nat) (b : List UInt8) (w : World) {L : Nat} (hL : b.length = L) (h : BR w A m b) (hk : k.length = 16) (ha : a.length = 16) (hx : x.length = 16) (hc : c.length = 16) (hq : chkS (decS k x) = c) :
    Calls Try.prog 12 #[.agg (cellsB k).toArray, .agg (cellsB a).toArray, .agg (recC x c A L m).toArray] w fun e w' => RecErr w.heap.size (rekS k a x c b) e w' ∧ Below w.heap.size w w' := by
  have hl0 : (L : Int) ≤ 140737488351232 := by have := h.len; omega
  have HL := Lib.hid hL
  have H := Lib.hid h
  have HK := Lib.hid hk
  have HA := Lib.hid ha
  have HX := Lib.hid hx
  have HC := Lib.hid hc
  have HZ := Lib.hid zero33
  have HZ16 := Lib.hid zero16
  have b0 := alloc4_bel w (.cells (cellsB k).toArray 23) (.cells (cellsB a).toArray 23) (.cells (recC x c A L m).toArray 26) (.cells (recC zeroK zeroK none 0 0).toArray 26)
  have HCT : Hid (∀ W, Calls Try.prog 60 #[.agg (cellsB k).toArray, .agg (recC x c A L m).toArray] W fun e w' => e = .returned (.tuple #[.agg (cellsB (decS k x)).toArray, .bool (chkS (decS k x) == c)]) ∧ Below W.heap.size W w') := fun W => refContent_any k x c A L m W hk hx hc
  have HS : Hid (rekS k a x c b = ⟨encS a (decS k x), c, b, 0⟩) := by unfold Hid rekS; rw [if_pos hq]
  rw [show (chkS (decS k x) == c) = true from by simp [hq]] at HCT
  have hdl : (decS k x).length = 16 := rfl
  have HEN : Hid (∀ W, Calls Try.prog 56 #[.agg (cellsB a).toArray, .agg (cellsB (decS k x)).toArray] W fun e w' => e = .returned (.agg (cellsB (encS a (decS k x))).toArray) ∧ Below W.heap.size W w') := fun W => refEncrypt_any a (decS k x) W ha hdl
  have HEL : Hid ((encS a (decS k x)).length = 16) := rfl
  clear hq
  generalize encS a (decS k x) = E at HS HEN HEL
  generalize decS k x = d at HCT hdl HEN
  have HDL := Lib.hid hdl
  have hdc : (cellsB d).length = 16 := by rw [cellsB_length, hdl]
  have hall := all16 d
  have hrl := fun (A : Option Addr) (n cap : Nat) => recC_length (x := E) (c := c) A n cap HEL.out hc
  have hra := fun (A : Option Addr) (n cap : Nat) => recC_all E c A n cap
  clear hdl hL h hk ha hx hc
  go_enter Try.func12, Try.ntmps12
  go_wp2_with (first
    | (rw [HZ.out]; refine wpList_load_row rfl 23 (.tmp 3) rfl w.heap.size rfl 23 (cellsB k).toArray (0, 0) _ (blk_d0 w _ _ _ _ _) under_key rfl (cellsB_size _ HK.out) ?_)
    | (refine wpList_load_row rfl 26 (.tmp 5) rfl (w.heap.size + 1 + 1) rfl 26 (recC x c A L m).toArray (0, 0) _ (blk_d2 w _ _ _ _ _) Try.underlying26 rfl (rec_info _ _ _ HX.out HC.out) ?_)
    | (go_at_call 60; refine (HCT.out _).mono ?_; rintro e w1 ⟨rfl, hb1⟩; have C1 := Lib.hid (((blk_d1 w (.cells (cellsB k).toArray 23) (cellsB a).toArray 23 (.cells (recC x c A L m).toArray 26) (.cells (recC zeroK zeroK none 0 0).toArray 26)).below' hb1).alloc (.cells (cellsB d).toArray 23)); have C2 := Lib.hid (((blk_d2 w (.cells (cellsB k).toArray 23) (.cells (cellsB a).toArray 23) (recC x c A L m).toArray 26 (.cells (recC zeroK zeroK none 0 0).toArray 26)).below' hb1).alloc (.cells (cellsB d).toArray 23)); have C3 := Lib.hid (((blk_d3 w (.cells (cellsB k).toArray 23) (.cells (cellsB a).toArray 23) (.cells (recC x c A L m).toArray 26) (recC zeroK zeroK none 0 0).toArray 26).below' hb1).alloc (.cells (cellsB d).toArray 23)); have b1 := b0.trans (hb1.mono b0.size))
    | (refine wpList_load_row rfl 23 (.tmp 4) rfl (w.heap.size + 1) rfl 23 (cellsB a).toArray (0, 0) _ C1.out under_key rfl (cellsB_size _ HA.out) ?_)
    | (refine wpList_load_row rfl 23 (.tmp 8) rfl w1.heap.size rfl 23 (cellsB d).toArray (0, 0) _ (Blk.new w1 _ _) under_key rfl (cellsB_size _ HDL.out) ?_)
    | (go_at_call 56; refine (HEN.out _).mono ?_; rintro e w5 ⟨rfl, hb5⟩; have D2 := Lib.hid (C2.out.below' hb5); have D3 := Lib.hid (C3.out.below' hb5); have b5 := bel_on (b1.alloc b1.size _) hb5)
    | (refine wpList_store_mid rfl 23 (.tmp 22) (.tmp 21) rfl (w.heap.size + 1 + 1) 0 (cellsB E).toArray rfl rfl (D2.out.there (by rw [List.size_toArray, List.size_toArray, cellsB_length, HEL.out, recC_length _ _ _ HX.out HC.out]; omega)) (cellsB_size _ HEL.out) (all_oneCell_toArray (cells_one E)) ?_; rw [show (cellsB E).toArray.toList = cellsB E from rfl, setCells_mid D2.out (cellsB E) (by rw [List.size_toArray, cellsB_length, HEL.out, recC_length _ _ _ HX.out HC.out]; omega) (cells_one E), recC_put E A L m HX.out HEL.out]; obtain ⟨W6, hW6⟩ : ∃ W : World, W = w5.setRow (w.heap.size + 1 + 1) (recC E c A L m).toArray := ⟨_, rfl⟩; rw [← hW6]; have F2 : Hid (Blk W6 (w.heap.size + 1 + 1) 26 (recC E c A L m).toArray) := (by rw [hW6]; exact D2.out.setRow _); have F3 : Hid (Blk W6 (w.heap.size + 1 + 1 + 1) 26 (recC zeroK zeroK none 0 0).toArray) := (by rw [hW6]; exact (setRow_other _ _ _ _ (by omega)).trans D3.out); have b6 : Below w.heap.size w W6 := (by rw [hW6]; exact below_setRow b5 (by omega) _); have hc6 := rec_data F2.out HEL.out HC.out; clear hW6)
    | (at_builtin; refine wpList_append_bytes _ rfl (.const (.slice none 0 0)) (.tmp 24) rfl W6.heap.size none 0 0 [] rfl rfl (OB.nil' _ _) A L m b HL.out rfl ((H.out.below b6).src HL.out) (by omega) (Nat.le_refl _) ?_; intro A7 c7 w7 hon7 hbl7 hg7; simp only [Nat.zero_add, List.nil_append] at hon7 ⊢; have hc7 := rec_data (F2.out.below' hbl7) HEL.out HC.out; have hf7 := (F2.out.below' hbl7).frozen 32; have G2 : Hid (Blk (w7.setCell ⟨w.heap.size + 1 + 1, 32, none⟩ (.slice A7 L c7)) (w.heap.size + 1 + 1) 26 (recC E c A7 L c7).toArray) := (by have hs := (F2.out.below' hbl7).set_ 32 (.slice A7 L c7); rw [recC_set A L m _ HEL.out HC.out] at hs; exact hs); have G3 := (F3.out.below' hbl7).far (p := ⟨w.heap.size + 1 + 1, 32, none⟩) (by simp) (.slice A7 L c7); have hr3 : (rowAt (w7.setCell ⟨w.heap.size + 1 + 1, 32, none⟩ (.slice A7 L c7)) (w.heap.size + 1 + 1 + 1)).size = 33 := (by rw [G3.row]; rfl); have hf3 := G3.free; have HG3 := Lib.hid G3; have b7 := bel_on b6 hbl7; have HON7 := Lib.hid hon7; have HB7 := Lib.hid hbl7; clear G3 hon7 hg7 hbl7)
    | (refine wpList_load_row rfl 26 (.tmp 5) rfl (w.heap.size + 1 + 1) rfl 26 (recC E c A7 L c7).toArray (0, 0) _ G2.out Try.underlying26 rfl (rec_info _ _ _ HEL.out HC.out) ?_))
  have hgW := Nat.lt_of_lt_of_le F3.out.lt (Nat.le_refl _)
  refine bodyPost_ret (v := .tuple #[.agg (recC E c A7 L c7).toArray, .int .i64 0]) ?_ rfl ⟨⟨A7, c7, by rw [HS.out]; show _ = Ending.returned (.tuple #[.agg (recC E c A7 b.length c7).toArray, .int .i64 0]); rw [HL.out], by rw [HS.out]; exact OB.le_ ((HON7.out.lowc (p := ⟨w.heap.size + 1 + 1, 32, none⟩) (by simp; omega) (.slice A7 L c7)).low hgW _) b6.size⟩, below_setRow (b7.setCell (p := ⟨w.heap.size + 1 + 1, 32, none⟩) (by simp; omega) _) (by omega) _⟩
  rw [results_cell_tmp Try.results12]
  simp [asAddr, Result.andThen, run_loadVar_row _ (w.heap.size + 1 + 1 + 1) _ _ _ (0, 0) _ (HG3.out.setRow (recC E c A7 L c7).toArray) Try.underlying26 rfl (rec_info _ _ _ HEL.out HC.out)]

set_option maxHeartbeats 2000000 in
set_option maxRecDepth 100000 in
theorem refRekey_no (k a x c : List UInt8) (A : Option Addr) (m : Nat) (b : List UInt8) (w : World) {L : Nat} (hL : b.length = L) (h : BR w A m b) (hk : k.length = 16) (ha : a.length = 16) (hx : x.length = 16) (hc : c.length = 16) (hq : ¬ chkS (decS k x) = c) :
    Calls Try.prog 12 #[.agg (cellsB k).toArray, .agg (cellsB a).toArray, .agg (recC x c A L m).toArray] w fun e w' => RecErr w.heap.size (rekS k a x c b) e w' ∧ Below w.heap.size w w' := by
  have HL := Lib.hid hL
  have H := Lib.hid h
  have HK := Lib.hid hk
  have HA := Lib.hid ha
  have HX := Lib.hid hx
  have HC := Lib.hid hc
  have HZ := Lib.hid zero33
  have HZ16 := Lib.hid zero16
  have b0 := alloc4_bel w (.cells (cellsB k).toArray 23) (.cells (cellsB a).toArray 23) (.cells (recC x c A L m).toArray 26) (.cells (recC zeroK zeroK none 0 0).toArray 26)
  have HCT : Hid (∀ W, Calls Try.prog 60 #[.agg (cellsB k).toArray, .agg (recC x c A L m).toArray] W fun e w' => e = .returned (.tuple #[.agg (cellsB (decS k x)).toArray, .bool (chkS (decS k x) == c)]) ∧ Below W.heap.size W w') := fun W => refContent_any k x c A L m W hk hx hc
  have HS : Hid (rekS k a x c b = noRec 53) := by unfold Hid rekS; rw [if_neg hq]
  rw [show (chkS (decS k x) == c) = false from by simp [hq]] at HCT
  have hdl : (decS k x).length = 16 := rfl
  have hlz : (recC zeroK zeroK none 0 0).length = 33 := rfl
  have haz := recC_all zeroK zeroK none 0 0
  clear hq
  generalize decS k x = d at HCT hdl
  have hdc : (cellsB d).length = 16 := by rw [cellsB_length, hdl]
  have hall := all16 d
  clear hdl hL h hk ha hx hc
  go_enter Try.func12, Try.ntmps12
  go_wp2_with (first
    | (rw [HZ.out]; refine wpList_load_row rfl 23 (.tmp 3) rfl w.heap.size rfl 23 (cellsB k).toArray (0, 0) _ (blk_d0 w _ _ _ _ _) under_key rfl (cellsB_size _ HK.out) ?_)
    | (refine wpList_load_row rfl 26 (.tmp 5) rfl (w.heap.size + 1 + 1) rfl 26 (recC x c A L m).toArray (0, 0) _ (blk_d2 w _ _ _ _ _) Try.underlying26 rfl (rec_info _ _ _ HX.out HC.out) ?_)
    | (go_at_call 60; refine (HCT.out _).mono ?_; rintro e w1 ⟨rfl, hb1⟩; have B3 := ((blk_d3 w (.cells (cellsB k).toArray 23) (.cells (cellsB a).toArray 23) (.cells (recC x c A L m).toArray 26) (recC zeroK zeroK none 0 0).toArray 26).below' hb1).alloc (.cells (cellsB d).toArray 23); have hr3 : (rowAt (w1.alloc (.cells (cellsB d).toArray 23)) (w.heap.size + 1 + 1 + 1)).size = 33 := by { rw [B3.row]; rfl }; have hf3 := B3.free; have HB3 := Lib.hid B3; clear B3)
    | (refine wpList_buildTo rfl 26 #[] rfl (some 18) rfl (recC zeroK zeroK none 0 0).toArray (by kernel_rfl) ?_))
  have b1 : Below w.heap.size w w1 := b0.trans (hb1.mono b0.size)
  refine bodyPost_ret (v := .tuple #[.agg (recC zeroK zeroK none 0 0).toArray, .int .i64 53]) ?_ rfl ⟨⟨none, 0, by rw [HS.out]; rfl, by rw [HS.out]; exact OB.nil' _ _⟩, below_setRow (b1.alloc b1.size _) (by omega) _⟩
  rw [results_cell_tmp Try.results12]
  simp [asAddr, Result.andThen, run_loadVar_row _ (w.heap.size + 1 + 1 + 1) _ _ _ (0, 0) _ (HB3.out.setRow (recC zeroK zeroK none 0 0).toArray) Try.underlying26 rfl (rec_info none 0 0 zeroK_length zeroK_length)]

theorem refRekey_any (k a x c : List UInt8) (A : Option Addr) (m : Nat) (b : List UInt8) (w : World) {L : Nat} (hL : b.length = L) (h : BR w A m b) (hk : k.length = 16) (ha : a.length = 16) (hx : x.length = 16) (hc : c.length = 16) :
    Calls Try.prog 12 #[.agg (cellsB k).toArray, .agg (cellsB a).toArray, .agg (recC x c A L m).toArray] w fun e w' => RecErr w.heap.size (rekS k a x c b) e w' ∧ Below w.heap.size w w' := by
  by_cases hq : chkS (decS k x) = c
  · exact refRekey_yes k a x c A m b w hL h hk ha hx hc hq
  · exact refRekey_no k a x c A m b w hL h hk ha hx hc hq
end Go.Proofs.Ytinpiodfpnbllaa
