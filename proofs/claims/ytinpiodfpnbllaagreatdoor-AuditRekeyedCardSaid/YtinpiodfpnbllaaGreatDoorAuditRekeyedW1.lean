/-
  Lemmas and contracts, joined.
-/
import Derived.Laws.ResultCell
import Derived.Test.YtinpiodfpnbllaaGreatDoorAuB2
import Derived.Test.YtinpiodfpnbllaaGreatDoorAuB1
import Derived.Test.YtinpiodfpnbllaaGreatDoorAuE1
import Derived.Test.YtinpiodfpnbllaaGreatDoorAuR1
set_option linter.unusedSimpArgs false
set_option linter.unusedVariables false
set_option linter.unnecessarySimpa false
/- A recording of some data: the program's. -/
namespace Go.Proofs.YtinpiodfpnbllaaGreatDoor
open Go.RowKit
set_option linter.unusedVariables false
attribute [local go_sem] run_storeCells_rec

set_option maxHeartbeats 2000000 in
set_option maxRecDepth 100000 in
theorem Record_any (k y : List UInt8) (A : Option Addr) (c : Nat) (b : List UInt8) (w : World) {L : Nat} (hL : b.length = L) (h : BR w A c b) (hk : k.length = 16) (hy : y.length = 16) :
    Calls Tryz.prog 56 #[.agg (cellsB k).toArray, .agg (cellsB y).toArray, .slice A L c] w fun e w' => RecErr w.heap.size (recS k y b) e w' ∧ Below w.heap.size w w' := by
  have HL := Lib.hid hL
  have H := Lib.hid h
  have HK := Lib.hid hk
  have HY := Lib.hid hy
  have HZ := Lib.hid zero33
  have b0 := alloc3_bel w (.cells (cellsB k).toArray 24) (.cells (cellsB y).toArray 24) (.cells (recC zeroK zeroK none 0 0).toArray 86)
  have hst := fun W => Stream_any y 0 A c b W hL
  have HST := Lib.hid hst
  by_cases hbig : 16384 < L
  · have HS : Hid (recS k y b = noRec 4) := by unfold Hid recS; rw [if_pos (by omega)]
    have HR : Hid (strR y 0 b = ([], 4)) := by unfold Hid strR; rw [if_pos (by omega)]
    have hlz : (recC zeroK zeroK none 0 0).length = 33 := rfl
    have haz := recC_all zeroK zeroK none 0 0
    clear hL h hk hy hst hbig
    go_enter Tryz.func56, Tryz.ntmps56
    go_wp2_with (first
      | (refine wpList_load_row rfl 24 (.tmp 4) rfl (w.heap.size + 1) rfl 24 (cellsB y).toArray (0, 0) _ (blk_a1 w _ _ _ _) under_key rfl (cellsB_size _ HY.out) ?_)
      | (go_at_call 50; rw [HZ.out]; refine (HST.out _ (H.out.below b0) HY.out).mono ?_; rintro e w1 ⟨⟨A1, c1, rfl, ho1⟩, hb1⟩; rw [HR.out] at ho1 ⊢; have B2 := (blk_a2 w _ _ _ _).below' hb1; have hr2 : (rowAt w1 (w.heap.size + 1 + 1)).size = 33 := by { rw [B2.row]; rfl }; have hf2 := B2.free; have HB2 := Lib.hid B2; clear B2 ho1)
      | (refine wpList_buildTo rfl 86 #[] rfl (some 18) rfl (recC zeroK zeroK none 0 0).toArray (by kernel_rfl) ?_))
    refine bodyPost_ret (v := .tuple #[.agg (recC zeroK zeroK none 0 0).toArray, .int .i64 4]) ?_ rfl ⟨⟨none, 0, by rw [HS.out]; rfl, by rw [HS.out]; exact OB.nil' _ _⟩, below_setRow (b0.trans (hb1.mono b0.size)) (by omega) _⟩
    rw [results_cell_tmp Tryz.results56]
    simp [asAddr, Result.andThen, run_loadVar_row _ (w.heap.size + 1 + 1) _ _ _ (0, 0) _ (HB2.out.setRow (recC zeroK zeroK none 0 0).toArray) Tryz.underlying86 rfl (rec_info none 0 0 zeroK_length zeroK_length)]
  · have HS : Hid (recS k y b = ⟨encS k y, chkS y, streamS y 0 b, 0⟩) := by unfold Hid recS; rw [if_neg (by omega)]
    have HEN : Hid (∀ W, Calls Tryz.prog 51 #[.agg (cellsB k).toArray, .agg (cellsB y).toArray] W fun e w' => e = .returned (.agg (cellsB (encS k y)).toArray) ∧ Below W.heap.size W w') := fun W => Encrypt_any k y W hk hy
    have HCK : Hid (∀ W, Calls Tryz.prog 118 #[.agg (cellsB y).toArray] W fun e w' => e = .returned (.agg (cellsB (chkS y)).toArray) ∧ Below W.heap.size W w') := fun W => check_any y W hy
    have HEL : Hid ((encS k y).length = 16) := rfl
    have HQL : Hid ((chkS y).length = 16) := rfl
    have HR : Hid (strR y 0 b = (streamS y 0 b, 0)) := by unfold Hid strR; rw [if_neg (by omega)]
    have HSL : Hid ((streamS y 0 b).length = L) := by unfold Hid; rw [streamS_length, hL]
    generalize encS k y = E at HS HEN HEL
    generalize chkS y = q at HS HCK HQL
    generalize streamS y 0 b = sb at HS HR HSL
    clear hL h hk hy hst hbig
    go_enter Tryz.func56, Tryz.ntmps56
    go_wp2_with (first
      | (refine wpList_load_row rfl 24 (.tmp 4) rfl (w.heap.size + 1) rfl 24 (cellsB y).toArray (0, 0) _ (blk_a1 w _ _ _ _) under_key rfl (cellsB_size _ HY.out) ?_)
      | (go_at_call 50; rw [HZ.out]; refine (HST.out _ (H.out.below b0) HY.out).mono ?_; rintro e w1 ⟨⟨A1, c1, rfl, ho1⟩, hb1⟩; rw [HR.out] at ho1 ⊢; rw [HSL.out]; have B0 := Lib.hid ((blk_a0 w (cellsB k).toArray 24 (.cells (cellsB y).toArray 24) (.cells (recC zeroK zeroK none 0 0).toArray 86)).below' hb1); have B1 := Lib.hid ((blk_a1 w (.cells (cellsB k).toArray 24) (cellsB y).toArray 24 (.cells (recC zeroK zeroK none 0 0).toArray 86)).below' hb1); have B2 := Lib.hid ((blk_a2 w (.cells (cellsB k).toArray 24) (.cells (cellsB y).toArray 24) (recC zeroK zeroK none 0 0).toArray 86).below' hb1); have HO1 := Lib.hid ho1; clear ho1))
    have b1 : Below w.heap.size w w1 := b0.trans (hb1.mono b0.size)
    refine wp_region_noPanic ?_
    refine wp_region_held_drew (S := fun w' => w'.rangeAt w.heap.size 0 (cellsB k) ∧ w'.rangeAt (w.heap.size + 1) 0 (cellsB y)) (by kernel_rfl) ⟨B0.out.drew.range, B1.out.drew.range⟩ (fun hS => ?_)
    refine hd_load 0 w.heap.size 0 (cellsB k) _ _ rfl rfl rfl (by kernel_rfl) (by kernel_rfl) (by kernel_rfl) (fun _ _ _ h => h) rfl (fun w hw => hw.1) under_key rfl (key_info HK.out) hS ?_
    refine hd_load 1 (w.heap.size + 1) 0 (cellsB y) _ _ rfl rfl rfl (by kernel_rfl) (by kernel_rfl) (by kernel_rfl) (fun _ _ _ h => h) rfl (fun w hw => hw.2) under_key rfl (key_info HY.out) hS ?_
    refine hd_load 3 (w.heap.size + 1) 0 (cellsB y) _ _ rfl rfl rfl (by kernel_rfl) (by kernel_rfl) (by kernel_rfl) (fun _ _ _ h => h) rfl (fun w hw => hw.2) under_key rfl (key_info HY.out) hS ?_
    refine hd_take 5 (.slice A1 L c1) rfl rfl (by kernel_rfl) (by kernel_rfl) (by kernel_rfl) (fun _ _ _ h => h) (fun w _ => by go_simp) hS ?_
    refine hd_calls 2 51 #[.agg (cellsB k).toArray, .agg (cellsB y).toArray] rfl rfl (by kernel_rfl) (by go_simp) ((HEN.out _).mono ?_)
    rintro e w5 ⟨rfl, hb5⟩
    have hS5 := And.intro (range_below hS.1 hb5) (range_below hS.2 hb5)
    refine ⟨_, rfl, hS5, ?_⟩
    refine hd_calls 4 118 #[.agg (cellsB y).toArray] rfl rfl (by kernel_rfl) (by go_simp) ((HCK.out _).mono ?_)
    rintro e w6 ⟨rfl, hb6⟩
    have hS6 := And.intro (range_below hS5.1 hb6) (range_below hS5.2 hb6)
    refine ⟨_, rfl, hS6, ?_⟩
    refine hd_build3 6 86 (.agg (cellsB (E)).toArray) (.agg (cellsB (q)).toArray) (.slice A1 L c1) (recC (E) (q) A1 L c1).toArray _ _ _ rfl rfl rfl (by kernel_rfl) (by kernel_rfl) (by kernel_rfl) (fun _ _ _ h => h) rfl rfl rfl (built_rec _ _ _ _ _ HEL.out HQL.out) hS6 ?_
    simp only [List.getElem_toArray, List.getElem_cons_succ, List.getElem_cons_zero, Act.put, List.setIfInBounds_toArray, List.set_cons_zero, List.set_cons_succ]
    have r6 := (B2.out.drew.below' hb5).below' hb6
    have hS7 := And.intro (range_setRow hS6.1 (g' := w.heap.size + 1 + 1) (by omega) (recC (E) (q) A1 L c1).toArray) (range_setRow hS6.2 (g' := w.heap.size + 1 + 1) (by omega) (recC (E) (q) A1 L c1).toArray)
    refine hd_store 7 (w.heap.size + 1 + 1) (recC (E) (q) A1 L c1).toArray _ _ _ rfl rfl rfl (by kernel_rfl) rfl rfl r6 (rec_info _ _ _ HEL.out HQL.out) (by rw [List.size_toArray, List.size_toArray, recC_length _ _ _ HEL.out HQL.out]; rfl) (by simpa using recC_all _ _ _ _ _) hS7 ?_
    refine hd_take 8 (.int .i64 0) rfl rfl (by kernel_rfl) (by kernel_rfl) (by kernel_rfl) (fun _ _ _ h => h) (fun w _ => by go_simp) hS7 ?_
    refine wpAnyH_done (by kernel_rfl) (NoPanic.normal ?_) _
    simp only [List.getElem_toArray, List.getElem_cons_succ, List.getElem_cons_zero, Act.put, List.setIfInBounds_toArray, List.set_cons_zero, List.set_cons_succ]
    have hb16 := bel_on (bel_on (w0 := w1) (Below.refl _ _).drew hb5) hb6
    have HO2 := Lib.hid (OB.le_ (B' := w.heap.size) (((HO1.out.below hb16)).low (g := w.heap.size + 1 + 1) (by simp) (recC (E) (q) A1 L c1).toArray) b0.size)
    have bF : Below w.heap.size w w6 := bel_on b1 hb16
    go_wp2_with fail
    refine bodyPost_ret (v := .tuple #[.agg (recC (E) (q) A1 L c1).toArray, .int .i64 0]) ?_ rfl ⟨⟨A1, c1, by rw [HS.out]; show _ = Ending.returned (.tuple #[.agg (recC (E) (q) A1 (sb).length c1).toArray, .int .i64 0]); rw [HSL.out], ?_⟩, below_setRow bF (by omega) _⟩
    · rw [results_cell_tmp Tryz.results56]
      simp [asAddr, Result.andThen, run_loadVar_row _ (w.heap.size + 1 + 1) _ _ _ (0, 0) _ (r6.setRow (recC (E) (q) A1 L c1).toArray) Tryz.underlying86 rfl (rec_info _ _ _ HEL.out HQL.out)]
    · rw [HS.out]
      exact HO2.out
end Go.Proofs.YtinpiodfpnbllaaGreatDoor

/- The law AuditRekeyed: the walk. -/
namespace Go.Proofs.YtinpiodfpnbllaaGreatDoor
open Go.RowKit
set_option linter.unusedVariables false
set_option linter.unusedSimpArgs false
attribute [local go_sem] equalIn_keys

theorem stream_twice (k : List UInt8) (n : UInt64) (b : List UInt8) : streamS k n (streamS k n b) = b := by
  refine List.ext_getElem (by rw [streamS_length, streamS_length]) fun i h1 h2 => ?_
  have hl : i < (streamS k n b).length := by rw [streamS_length] at h1; exact h1
  have e1 : (streamS k n (streamS k n b))[i] = stB1 k n (streamS k n b) i := by simp [streamS]
  have e2 : (streamS k n b).getD i 0 = stB1 k n b i := by
    rw [List.getD_eq_getElem?_getD, List.getElem?_eq_getElem hl]
    simp [streamS]
  rw [e1]
  unfold stB1 at e2 ⊢
  rw [e2, List.getD_eq_getElem?_getD, List.getElem?_eq_getElem h2, UInt8.xor_assoc, UInt8.xor_self, UInt8.xor_zero]
  rfl
theorem rekZ : (#[.int .u8 0, .int .u8 0, .int .u8 0, .int .u8 0, .int .u8 0, .int .u8 0, .int .u8 0, .int .u8 0, .int .u8 0, .int .u8 0, .int .u8 0, .int .u8 0, .int .u8 0, .int .u8 0, .int .u8 0, .int .u8 0, .int .u8 0, .int .u8 0, .int .u8 0, .int .u8 0, .int .u8 0, .int .u8 0, .int .u8 0, .int .u8 0, .int .u8 0, .int .u8 0, .int .u8 0, .int .u8 0, .int .u8 0, .int .u8 0, .int .u8 0, .int .u8 0, .slice none 0 0] : Array Value) = (recC zeroK zeroK none 0 0).toArray := rfl
theorem rec_parts {w : World} {g : Nat} {x q : List UInt8} {D : Option Addr} {M c : Nat} (h : Blk w g 86 (recC x q D M c).toArray) (hx : x.length = 16) (hq : q.length = 16) : w.rangeAt g 0 (cellsB x) ∧ w.rangeAt g 16 (cellsB q) ∧ w.cell? ⟨g, 32, none⟩ = some (.slice D M c) := by
  refine ⟨rec_box h, rec_check h hx, ?_⟩
  have hr := h.range
  have h1 : (cellsB x).length = 16 := by rw [cellsB_length, hx]
  have h2 : (cellsB q).length = 16 := by rw [cellsB_length, hq]
  have := hr 32 (.slice D M c) (by rw [recC, List.getElem?_append_right (by omega), List.getElem?_append_right (by omega)]; rw [show 32 - (cellsB x).length - (cellsB q).length = 0 from by omega]; rfl)
  exact this
theorem rec_sizes {x q : List UInt8} (hx : x.length = 16) (hq : q.length = 16) (D : Option Addr) (M c : Nat) {x' q' : List UInt8} (hx' : x'.length = 16) (hq' : q'.length = 16) (D' : Option Addr) (M' c' : Nat) : (recC x q D M c).toArray.size = (recC x' q' D' M' c').toArray.size := by
  rw [List.size_toArray, List.size_toArray, recC_length D M c hx hq, recC_length D' M' c' hx' hq']
theorem rec_all (x q : List UInt8) (D : Option Addr) (M c : Nat) : (recC x q D M c).toArray.all (·.oneCell') = true := by simpa using recC_all x q D M c

set_option maxHeartbeats 4000000 in
set_option maxRecDepth 100000 in
theorem rekeyed_early (y : List UInt8) (b : List UInt8) (D : Option Addr) (cD : Nat) (ks : List (List UInt8)) (A : Option Addr) (c : Nat) (w : World) {L n : Nat} (hL : b.length = L) (hn : ks.length = n) (hy : y.length = 16) (hD : BR w D cD b) (hk : KR w A c ks) (HA : Hid (∀ W, Below w.heap.size w W → Calls Tryz.prog 25 #[] W fun e w' => e = .returned (.bool true) ∧ Below W.heap.size W w')) (hbad : n < 1 ∨ 100 < n ∨ 16384 < L) :
    Calls Tryz.prog 15 #[.agg (cellsB y).toArray, .slice D L cD, .slice A n c] w fun e w' => e = .returned (.bool true) ∧ Below w.heap.size w w' := by
  have hLi : (L : Int) ≤ 140737488351232 := by have := hD.len; omega
  have hni : (n : Int) ≤ 140737488351232 := by have := hk.len; omega
  obtain ⟨W0, hW0⟩ : ∃ W, W = w.alloc (.cells (cellsB y).toArray 24) := ⟨_, rfl⟩
  have D0 : Hid (Below w.heap.size w W0) := by unfold Hid; rw [hW0]; exact alloc_bel w _
  have Y0 : Hid (Blk W0 w.heap.size 24 (cellsB y).toArray) := by unfold Hid; rw [hW0]; exact Blk.new w _ _
  have HW0 := Lib.hid hW0
  have HYL := Lib.hid hy
  have hb3 : (n : Int) < 1 ∨ 100 < (n : Int) ∨ 16384 < (L : Int) := by omega
  clear hW0 hL hn hy hD hk hbad
  go_enter Tryz.func15, Tryz.ntmps15
  go_wp2_with (go_at_call 25; rw [← HW0.out]; (with_reducible refine (HA.out _ D0.out).mono ?_); rintro e w1 ⟨rfl, hb⟩; have D1 := Lib.hid (bel_on D0.out hb); have Y1 := Lib.hid (Y0.out.below' hb); clear hb)
  all_goals first | omega | (go_ret; exact ⟨rfl, D1.out⟩)

set_option maxHeartbeats 8000000 in
set_option maxRecDepth 100000 in
theorem rekeyed_good (y : List UInt8) (b : List UInt8) (D : Option Addr) (cD : Nat) (ks : List (List UInt8)) (A : Option Addr) (c : Nat) (w : World) {L n : Nat} (hL : b.length = L) (hn : ks.length = n) (hy : y.length = 16) (hD : BR w D cD b) (hk : KR w A c ks) (HA : Hid (∀ W, Below w.heap.size w W → Calls Tryz.prog 25 #[] W fun e w' => e = .returned (.bool true) ∧ Below W.heap.size W w')) (hn1 : 1 ≤ n) (hn2 : n ≤ 100) (hL2 : L ≤ 16384) :
    Calls Tryz.prog 15 #[.agg (cellsB y).toArray, .slice D L cD, .slice A n c] w fun e w' => e = .returned (.bool true) ∧ Below w.heap.size w w' := by
  have hn1i : (1 : Int) ≤ n := by omega
  have hn0 : 0 < n := by omega
  have hn2i : (n : Int) ≤ 100 := by omega
  have hL2i : (L : Int) ≤ 16384 := by omega
  obtain ⟨kb, ko, rfl, hkb, hkr0⟩ := hk.at_ (i := 0) (by omega)
  clear hkr0
  have HKR : Hid (∀ W i, i < n → Below w.heap.size w W → W.rangeAt kb (ko + i * 16) (cellsB (ks.getD i []))) := fun W i hi hW => by
    obtain ⟨b', o', e, _, hr⟩ := (hk.below hW).at_ (i := i) (by omega)
    injection e with e
    injection e with e1 e2
    subst e1 e2
    rw [List.getD_eq_getElem?_getD, List.getElem?_eq_getElem (by omega)]
    exact hr
  have HK16 : Hid (∀ i, i < n → (ks.getD i []).length = 16) := fun i hi => by
    rw [List.getD_eq_getElem?_getD, List.getElem?_eq_getElem (by omega)]
    exact hk.2 _ (List.getElem_mem _)
  have HREC : Hid (∀ W, Below w.heap.size w W → Calls Tryz.prog 56 #[.agg (cellsB (ks.getD 0 [])).toArray, .agg (cellsB y).toArray, .slice D L cD] W fun e w' => (∃ X x, e = .returned (.tuple #[.agg (recC (encS (ks.getD 0 []) y) (chkS y) X L x).toArray, .int .i64 0]) ∧ OB W.heap.size w' X x (streamS y 0 b)) ∧ Below W.heap.size W w') := fun W hW => (Record_any (ks.getD 0 []) y D cD b W hL (hD.below hW) (HK16.out 0 (by omega)) hy).mono fun e w' ⟨⟨X, x, he, ho⟩, hb⟩ => by
    have e1 : recS (ks.getD 0 []) y b = ⟨encS (ks.getD 0 []) y, chkS y, streamS y 0 b, 0⟩ := by unfold recS; rw [if_neg (by omega)]
    rw [e1] at he ho
    dsimp only at he ho
    rw [streamS_length, hL] at he
    exact ⟨⟨X, x, he, ho⟩, hb⟩
  have HREK : Hid (∀ i, i + 1 < n → ∀ W X x, BR W X x (streamS y 0 b) → Calls Tryz.prog 48 #[.agg (cellsB (ks.getD i [])).toArray, .agg (cellsB (ks.getD (i + 1) [])).toArray, .agg (recC (encS (ks.getD i []) y) (chkS y) X L x).toArray] W fun e w' => (∃ X x, e = .returned (.tuple #[.agg (recC (encS (ks.getD (i + 1) []) y) (chkS y) X L x).toArray, .int .i64 0]) ∧ OB W.heap.size w' X x (streamS y 0 b)) ∧ Below W.heap.size W w') := fun i hi W X x hX => (Rekey_any (ks.getD i []) (ks.getD (i + 1) []) (encS (ks.getD i []) y) (chkS y) X x (streamS y 0 b) W (by rw [streamS_length, hL]) hX (HK16.out i (by omega)) (HK16.out (i + 1) hi) rfl rfl).mono fun e w' ⟨⟨X, x, he, ho⟩, hb⟩ => by
    have e1 : rekS (ks.getD i []) (ks.getD (i + 1) []) (encS (ks.getD i []) y) (chkS y) (streamS y 0 b) = ⟨encS (ks.getD (i + 1) []) y, chkS y, streamS y 0 b, 0⟩ := by unfold rekS; rw [decS_encS _ hy, if_pos rfl]
    rw [e1] at he ho
    dsimp only at he ho
    rw [streamS_length, hL] at he
    exact ⟨⟨X, x, he, ho⟩, hb⟩
  have HPLY : Hid (∀ i, i < n → ∀ W X x, BR W X x (streamS y 0 b) → Calls Tryz.prog 47 #[.agg (cellsB (ks.getD i [])).toArray, .agg (recC (encS (ks.getD i []) y) (chkS y) X L x).toArray] W fun e w' => (∃ X x, e = .returned (.tuple #[.slice X L x, .int .i64 0]) ∧ BR w' X x b) ∧ Below W.heap.size W w') := fun i hi W X x hX => (Play_any (ks.getD i []) (encS (ks.getD i []) y) (chkS y) X x (streamS y 0 b) W (by rw [streamS_length, hL]) hX (HK16.out i hi) rfl rfl).mono fun e w' ⟨⟨X, x, he, ho⟩, hb⟩ => by
    have e1 : plyS (ks.getD i []) (encS (ks.getD i []) y) (chkS y) (streamS y 0 b) = (b, 0) := by unfold plyS; rw [if_neg (by rw [streamS_length]; omega), decS_encS _ hy, if_pos rfl, stream_twice]
    rw [e1] at he ho
    dsimp only at he ho
    rw [hL] at he
    exact ⟨⟨X, x, he, ho.br (by omega)⟩, hb⟩
  have HENC : Hid (∀ W, Calls Tryz.prog 51 #[.agg (cellsB (ks.getD 0 [])).toArray, .agg (cellsB y).toArray] W fun e w' => e = .returned (.agg (cellsB (encS (ks.getD 0 []) y)).toArray) ∧ Below W.heap.size W w') := fun W => Encrypt_any (ks.getD 0 []) y W (HK16.out 0 (by omega)) hy
  have HDER : Hid (∀ W, Calls Tryz.prog 49 #[.agg (cellsB y).toArray, .int .u8 53, .int .u64 0] W fun e w' => e = .returned (.agg (cellsB (chkS y)).toArray) ∧ Below W.heap.size W w') := fun W => Derive_any y 53 0 W hy
  have HEL : Hid (∀ i, i < n → (encS (ks.getD i []) y).length = 16) := fun i hi => rfl
  have HQL : Hid ((chkS y).length = 16) := rfl
  have HBL : Hid ((streamS y 0 b).length = L) := by unfold Hid; rw [streamS_length, hL]
  have HDB := Lib.hid hD
  have HBB := Lib.hid hL
  have hLi : (L : Int) ≤ 140737488351232 := by have := hD.len; omega
  have hni : (n : Int) ≤ 140737488351232 := by have := hk.len; omega
  obtain ⟨W0, hW0⟩ : ∃ W, W = w.alloc (.cells (cellsB y).toArray 24) := ⟨_, rfl⟩
  have D0 : Hid (Below w.heap.size w W0) := by unfold Hid; rw [hW0]; exact alloc_bel w _
  have Y0 : Hid (Blk W0 w.heap.size 24 (cellsB y).toArray) := by unfold Hid; rw [hW0]; exact Blk.new w _ _
  have HW0 := Lib.hid hW0
  have HYL := Lib.hid hy
  obtain ⟨EK, hEK⟩ : ∃ f : Nat → List UInt8, f = fun i => encS (ks.getD i []) y := ⟨_, rfl⟩
  obtain ⟨KK, hKK⟩ : ∃ f : Nat → List UInt8, f = fun i => ks.getD i [] := ⟨_, rfl⟩
  have e1 : ∀ i, encS (ks.getD i []) y = EK i := fun i => by rw [hEK]
  simp only [e1] at HREC HREK HPLY HENC HEL
  have e2 : ∀ i, ks.getD i [] = KK i := fun i => by rw [hKK]
  simp only [e2] at HREC HREK HPLY HENC HKR HK16
  clear hW0 hL hn hy hD hk hkb hEK hKK e1 e2
  generalize chkS y = ck at HREC HREK HPLY HDER HQL
  generalize streamS y 0 b = sd at HREC HREK HPLY HBL
  generalize hst : strB sd = s1
  have HS1 := Lib.hid hst
  generalize hst2 : strB b = s2
  have HS2 := Lib.hid hst2
  clear hst hst2
  have HZR := Lib.hid rekZ
  have K0L := Lib.hid (HK16.out 0 (by omega))
  have E0L := Lib.hid (HEL.out 0 (by omega))
  go_enter Tryz.func15, Tryz.ntmps15
  go_wp2_with (go_at_call 25; rw [← HW0.out]; (with_reducible refine (HA.out _ D0.out).mono ?_); rintro e w1 ⟨rfl, hb⟩; have D1 := Lib.hid (bel_on D0.out hb); have Y1 := Lib.hid (Y0.out.below' hb); clear hb)
  all_goals first | omega | skip
  refine' (fun (HIN : ∀ (G : Nat) (X : Option Addr) (x : Nat) (V : World), (Blk V G 86 (recC (EK 0) ck X L x).toArray ∧ OB w1.heap.size V X x sd ∧ w1.heap.size ≤ G ∧ Below w1.heap.size w1 V) → (_ : Nat → Option Addr → Nat → World → Prop) G X x V) => _) _
  rotate_left
  · have HS : Hid (∀ W, Below w1.heap.size w1 W → W.rangeAt kb ko (cellsB (KK 0)) ∧ W.rangeAt w.heap.size 0 (cellsB y)) := fun W hW => ⟨by have := HKR.out W 0 (by omega) (bel_on D1.out hW); simpa using this, (Y1.out.below' hW).range⟩
    have E0 : Below w1.heap.size w1 w1 := Below.refl _ _
    refine wp_region_noPanic ?_
    refine wp_region_held_drew (S := fun W => W.rangeAt kb ko (cellsB (KK 0)) ∧ W.rangeAt w.heap.size 0 (cellsB y)) (by kernel_rfl) (HS.out _ E0.drew) (fun hS => ?_)
    have E0 := E0.drew
    refine hd_take 0 (_) rfl rfl (by kernel_rfl) (by kernel_rfl) (by kernel_rfl) (fun _ _ _ h => h) (fun w hw => by go_simp <;> rfl) hS ?_
    simp only [List.getElem_toArray, List.getElem_cons_succ, List.getElem_cons_zero, Act.put, List.setIfInBounds_toArray, List.set_cons_zero, List.set_cons_succ]
    refine hd_take 1 (.pointer (some ⟨kb, ko, none⟩)) rfl rfl (by kernel_rfl) (by kernel_rfl) (by kernel_rfl) (fun _ _ _ h => h) (fun w hw => by simp [go_sem, hn0]) hS ?_
    simp only [List.getElem_toArray, List.getElem_cons_succ, List.getElem_cons_zero, Act.put, List.setIfInBounds_toArray, List.set_cons_zero, List.set_cons_succ]
    refine hd_load 2 (kb) (ko) (cellsB (KK 0)) _ _ rfl rfl rfl (by kernel_rfl) (by kernel_rfl) (by kernel_rfl) (fun _ _ _ h => h) rfl (fun w hw => hw.1) under_key rfl (key_info K0L.out) hS ?_
    simp only [List.getElem_toArray, List.getElem_cons_succ, List.getElem_cons_zero, Act.put, List.setIfInBounds_toArray, List.set_cons_zero, List.set_cons_succ]
    refine hd_load 3 (w.heap.size) (0) (cellsB y) _ _ rfl rfl rfl (by kernel_rfl) (by kernel_rfl) (by kernel_rfl) (fun _ _ _ h => h) rfl (fun w hw => hw.2) under_key rfl (key_info HYL.out) hS ?_
    simp only [List.getElem_toArray, List.getElem_cons_succ, List.getElem_cons_zero, Act.put, List.setIfInBounds_toArray, List.set_cons_zero, List.set_cons_succ]
    refine hd_take 4 (_) rfl rfl (by kernel_rfl) (by kernel_rfl) (by kernel_rfl) (fun _ _ _ h => h) (fun w hw => by go_simp <;> rfl) hS ?_
    simp only [List.getElem_toArray, List.getElem_cons_succ, List.getElem_cons_zero, Act.put, List.setIfInBounds_toArray, List.set_cons_zero, List.set_cons_succ]
    have EA := bel_on E0 (alloc_bel w1.drew (.cells (recC zeroK zeroK none 0 0).toArray 86))
    refine hd_two 5 9 (by kernel_rfl) (op_call 56 #[.agg (cellsB (KK 0)).toArray, .agg (cellsB y).toArray, .slice D L cD] rfl rfl (by go_simp <;> rfl) ((HREC.out _ (bel_on D1.out E0)).mono ?_)) (op_run (.pointer (some ⟨w1.heap.size, 0, none⟩)) (w1.drew.alloc (.cells (recC zeroK zeroK none 0 0).toArray 86)) rfl rfl (by rw [← HZR.out]; go_simp) ⟨HS.out _ EA, ?_⟩)
    · rintro e v1 ⟨⟨X, x, rfl, hx⟩, hb⟩
      have E1 := bel_on E0 hb
      have hS1 := HS.out _ E1
      refine ⟨_, rfl, hS1, ?_⟩
      simp only [List.getElem_toArray, List.getElem_cons_succ, List.getElem_cons_zero, Act.put, List.setIfInBounds_toArray, List.set_cons_zero, List.set_cons_succ]
      refine hd_take 6 (_) rfl rfl (by kernel_rfl) (by kernel_rfl) (by kernel_rfl) (fun _ _ _ h => h) (fun w hw => by go_simp <;> rfl) hS1 ?_
      simp only [List.getElem_toArray, List.getElem_cons_succ, List.getElem_cons_zero, Act.put, List.setIfInBounds_toArray, List.set_cons_zero, List.set_cons_succ]
      refine hd_take 7 (_) rfl rfl (by kernel_rfl) (by kernel_rfl) (by kernel_rfl) (fun _ _ _ h => h) (fun w hw => by go_simp <;> rfl) hS1 ?_
      simp only [List.getElem_toArray, List.getElem_cons_succ, List.getElem_cons_zero, Act.put, List.setIfInBounds_toArray, List.set_cons_zero, List.set_cons_succ]
      refine hd_take 8 (_) rfl rfl (by kernel_rfl) (by kernel_rfl) (by kernel_rfl) (fun _ _ _ h => h) (fun w hw => by go_simp <;> rfl) hS1 ?_
      simp only [List.getElem_toArray, List.getElem_cons_succ, List.getElem_cons_zero, Act.put, List.setIfInBounds_toArray, List.set_cons_zero, List.set_cons_succ]
      obtain ⟨G, hG⟩ : ∃ g, g = v1.heap.size := ⟨_, rfl⟩
      obtain ⟨v2, hv2⟩ : ∃ V, V = v1.alloc (.cells (recC zeroK zeroK none 0 0).toArray 86) := ⟨_, rfl⟩
      have E2 : Below w1.heap.size w1 v2 := by rw [hv2]; exact bel_on E1 (alloc_bel v1 _)
      have hbk : Blk v2 G 86 (recC zeroK zeroK none 0 0).toArray := by rw [hv2, hG]; exact Blk.new v1 _ _
      have hGb : w1.heap.size ≤ G := by rw [hG]; exact E1.size
      refine hd_sole 9 (by kernel_rfl) (op_run (.pointer (some ⟨G, 0, none⟩)) v2 rfl rfl (by rw [hG, hv2, ← HZR.out]; go_simp) ⟨HS.out _ E2, ?_⟩)
      simp only [List.getElem_toArray, List.getElem_cons_succ, List.getElem_cons_zero, Act.put, List.setIfInBounds_toArray, List.set_cons_zero, List.set_cons_succ]
      refine hd_store 10 G (recC (EK 0) ck X L x).toArray _ _ _ rfl rfl rfl (by kernel_rfl) rfl rfl hbk (rec_info _ _ _ E0L.out HQL.out) (rec_sizes zeroK_length zeroK_length _ _ _ E0L.out HQL.out _ _ _) (rec_all _ _ _ _ _) (HS.out _ (below_setRow E2 hGb _)) ?_
      simp only [List.getElem_toArray, List.getElem_cons_succ, List.getElem_cons_zero, Act.put, List.setIfInBounds_toArray, List.set_cons_zero, List.set_cons_succ]
      refine hd_take 11 (_) rfl rfl (by kernel_rfl) (by kernel_rfl) (by kernel_rfl) (fun _ _ _ h => h) (fun w hw => by go_simp <;> rfl) (HS.out _ (below_setRow E2 hGb _)) ?_
      refine wpAnyH_done (by kernel_rfl) (NoPanic.normal ?_) _
      simp only [List.getElem_toArray, List.getElem_cons_succ, List.getElem_cons_zero, Act.put, List.setIfInBounds_toArray, List.set_cons_zero, List.set_cons_succ]
      have hF1 : Blk (v2.setRow G (recC (EK 0) ck X L x).toArray) G 86 (recC (EK 0) ck X L x).toArray := hbk.setRow _
      have hF2 : OB w1.heap.size (v2.setRow G (recC (EK 0) ck X L x).toArray) X x sd := by rw [hv2, hG]; exact (hx.below (below_setRow (alloc_bel v1 _) (Nat.le_refl _) _)).le_ E0.size
      have hF3 := below_setRow E2 hGb (recC (EK 0) ck X L x).toArray
      generalize v2.setRow G (recC (EK 0) ck X L x).toArray = V at hF1 hF2 hF3 ⊢
      exact HIN G X x V ⟨hF1, hF2, hGb, hF3⟩
    · simp only [List.getElem_toArray, List.getElem_cons_succ, List.getElem_cons_zero, Act.put, List.setIfInBounds_toArray, List.set_cons_zero, List.set_cons_succ]
      obtain ⟨G, hG⟩ : ∃ g, g = w1.heap.size := ⟨_, rfl⟩
      obtain ⟨va, hva⟩ : ∃ V, V = w1.drew.alloc (.cells (recC zeroK zeroK none 0 0).toArray 86) := ⟨_, rfl⟩
      rw [← hva] at EA ⊢
      rw [← hG]
      have hbk0 : Blk va G 86 (recC zeroK zeroK none 0 0).toArray := by rw [hva, hG]; have h := Blk.new w1.drew 86 (recC zeroK zeroK none 0 0).toArray; first | exact h | simpa using h
      have hSa := HS.out _ EA
      refine hd_calls 5 56 #[.agg (cellsB (KK 0)).toArray, .agg (cellsB y).toArray, .slice D L cD] rfl rfl (by kernel_rfl) (by go_simp <;> rfl) ?_
      refine (HREC.out _ (bel_on D1.out EA)).mono ?_
      rintro e v1 ⟨⟨X, x, rfl, hx⟩, hb⟩
      have E1 := bel_on EA hb
      have hS1 := HS.out _ E1
      refine ⟨_, rfl, hS1, ?_⟩
      simp only [List.getElem_toArray, List.getElem_cons_succ, List.getElem_cons_zero, Act.put, List.setIfInBounds_toArray, List.set_cons_zero, List.set_cons_succ]
      refine hd_take 6 (_) rfl rfl (by kernel_rfl) (by kernel_rfl) (by kernel_rfl) (fun _ _ _ h => h) (fun w hw => by go_simp <;> rfl) hS1 ?_
      simp only [List.getElem_toArray, List.getElem_cons_succ, List.getElem_cons_zero, Act.put, List.setIfInBounds_toArray, List.set_cons_zero, List.set_cons_succ]
      refine hd_take 7 (_) rfl rfl (by kernel_rfl) (by kernel_rfl) (by kernel_rfl) (fun _ _ _ h => h) (fun w hw => by go_simp <;> rfl) hS1 ?_
      simp only [List.getElem_toArray, List.getElem_cons_succ, List.getElem_cons_zero, Act.put, List.setIfInBounds_toArray, List.set_cons_zero, List.set_cons_succ]
      refine hd_take 8 (_) rfl rfl (by kernel_rfl) (by kernel_rfl) (by kernel_rfl) (fun _ _ _ h => h) (fun w hw => by go_simp <;> rfl) hS1 ?_
      simp only [List.getElem_toArray, List.getElem_cons_succ, List.getElem_cons_zero, Act.put, List.setIfInBounds_toArray, List.set_cons_zero, List.set_cons_succ]
      have hbk : Blk v1 G 86 (recC zeroK zeroK none 0 0).toArray := hbk0.below' hb
      have hGb : w1.heap.size ≤ G := by rw [hG]; exact Nat.le_refl _
      refine hd_store 10 G (recC (EK 0) ck X L x).toArray _ _ _ rfl rfl rfl (by kernel_rfl) rfl rfl hbk (rec_info _ _ _ E0L.out HQL.out) (rec_sizes zeroK_length zeroK_length _ _ _ E0L.out HQL.out _ _ _) (rec_all _ _ _ _ _) (HS.out _ (below_setRow E1 hGb _)) ?_
      simp only [List.getElem_toArray, List.getElem_cons_succ, List.getElem_cons_zero, Act.put, List.setIfInBounds_toArray, List.set_cons_zero, List.set_cons_succ]
      refine hd_take 11 (_) rfl rfl (by kernel_rfl) (by kernel_rfl) (by kernel_rfl) (fun _ _ _ h => h) (fun w hw => by go_simp <;> rfl) (HS.out _ (below_setRow E1 hGb _)) ?_
      refine wpAnyH_done (by kernel_rfl) (NoPanic.normal ?_) _
      simp only [List.getElem_toArray, List.getElem_cons_succ, List.getElem_cons_zero, Act.put, List.setIfInBounds_toArray, List.set_cons_zero, List.set_cons_succ]
      have hF1 : Blk (v1.setRow G (recC (EK 0) ck X L x).toArray) G 86 (recC (EK 0) ck X L x).toArray := hbk.setRow _
      have hF2 : OB w1.heap.size (v1.setRow G (recC (EK 0) ck X L x).toArray) X x sd := (OB.low hx hbk0.lt _).le_ EA.size
      have hF3 := below_setRow E1 hGb (recC (EK 0) ck X L x).toArray
      generalize v1.setRow G (recC (EK 0) ck X L x).toArray = V at hF1 hF2 hF3 ⊢
      exact HIN G X x V ⟨hF1, hF2, hGb, hF3⟩
  · intro G X x V hPP
    obtain ⟨hB4, hO4, hG4, hb4⟩ := hPP
    have D4 := Lib.hid (bel_on D1.out hb4)
    have Y4 := Lib.hid (Y1.out.below' hb4)
    have B4 := Lib.hid hB4
    have X4 := Lib.hid (hO4.br (by rw [HBL.out]; omega))
    have hGw : w.heap.size < G := by have := Y1.out.lt; omega
    have HGW := Lib.hid hGw
    clear hB4 hO4 hG4 hb4 hGw
    go_wp2_with fail
    have HS : Hid (∀ W, Below V.heap.size V W → W.rangeAt G 0 (cellsB (EK 0)) ∧ W.rangeAt G 16 (cellsB ck) ∧ W.rangeAt kb ko (cellsB (KK 0)) ∧ W.rangeAt w.heap.size 0 (cellsB y)) := fun W hW => ⟨(rec_parts (B4.out.below' hW) E0L.out HQL.out).1, (rec_parts (B4.out.below' hW) E0L.out HQL.out).2.1, by have := HKR.out W 0 (by omega) (bel_on D4.out hW); simpa using this, (Y4.out.below' hW).range⟩
    have E0 : Below V.heap.size V V := Below.refl _ _
    refine wp_region_noPanic ?_
    refine wp_region_held_drew (S := fun W => W.rangeAt G 0 (cellsB (EK 0)) ∧ W.rangeAt G 16 (cellsB ck) ∧ W.rangeAt kb ko (cellsB (KK 0)) ∧ W.rangeAt w.heap.size 0 (cellsB y)) (by kernel_rfl) (HS.out _ E0.drew) (fun hS => ?_)
    have E0 := E0.drew
    refine hd_take 0 (_) rfl rfl (by kernel_rfl) (by kernel_rfl) (by kernel_rfl) (fun _ _ _ h => h) (fun w hw => by go_simp <;> rfl) hS ?_
    simp only [List.getElem_toArray, List.getElem_cons_succ, List.getElem_cons_zero, Act.put, List.setIfInBounds_toArray, List.set_cons_zero, List.set_cons_succ]
    refine hd_take 1 (_) rfl rfl (by kernel_rfl) (by kernel_rfl) (by kernel_rfl) (fun _ _ _ h => h) (fun w hw => by go_simp <;> rfl) hS ?_
    simp only [List.getElem_toArray, List.getElem_cons_succ, List.getElem_cons_zero, Act.put, List.setIfInBounds_toArray, List.set_cons_zero, List.set_cons_succ]
    refine hd_take 2 (_) rfl rfl (by kernel_rfl) (by kernel_rfl) (by kernel_rfl) (fun _ _ _ h => h) (fun w hw => by go_simp <;> rfl) hS ?_
    simp only [List.getElem_toArray, List.getElem_cons_succ, List.getElem_cons_zero, Act.put, List.setIfInBounds_toArray, List.set_cons_zero, List.set_cons_succ]
    refine hg_take 3 (_) rfl (by rfl) (by kernel_rfl) (by kernel_rfl) (by kernel_rfl) (fun _ _ _ h => h) (fun w hw => by go_simp <;> rfl) hS ?_
    simp only [List.getElem_toArray, List.getElem_cons_succ, List.getElem_cons_zero, Act.put, List.setIfInBounds_toArray, List.set_cons_zero, List.set_cons_succ]
    refine hg_load 4 (G) (0) (cellsB (EK 0)) _ _ rfl rfl (by rfl) (by kernel_rfl) (by kernel_rfl) (by kernel_rfl) (fun _ _ _ h => h) rfl (fun w hw => hw.1) under_key rfl (key_info E0L.out) hS ?_
    simp only [List.getElem_toArray, List.getElem_cons_succ, List.getElem_cons_zero, Act.put, List.setIfInBounds_toArray, List.set_cons_zero, List.set_cons_succ]
    refine hg_take 5 (_) rfl (by rfl) (by kernel_rfl) (by kernel_rfl) (by kernel_rfl) (fun _ _ _ h => h) (fun w hw => by go_simp <;> rfl) hS ?_
    simp only [List.getElem_toArray, List.getElem_cons_succ, List.getElem_cons_zero, Act.put, List.setIfInBounds_toArray, List.set_cons_zero, List.set_cons_succ]
    refine hg_take 6 (.pointer (some ⟨kb, ko, none⟩)) rfl (by rfl) (by kernel_rfl) (by kernel_rfl) (by kernel_rfl) (fun _ _ _ h => h) (fun w hw => by simp [go_sem, hn0]) hS ?_
    simp only [List.getElem_toArray, List.getElem_cons_succ, List.getElem_cons_zero, Act.put, List.setIfInBounds_toArray, List.set_cons_zero, List.set_cons_succ]
    refine hg_load 7 (kb) (ko) (cellsB (KK 0)) _ _ rfl rfl (by rfl) (by kernel_rfl) (by kernel_rfl) (by kernel_rfl) (fun _ _ _ h => h) rfl (fun w hw => hw.2.2.1) under_key rfl (key_info K0L.out) hS ?_
    simp only [List.getElem_toArray, List.getElem_cons_succ, List.getElem_cons_zero, Act.put, List.setIfInBounds_toArray, List.set_cons_zero, List.set_cons_succ]
    refine hg_load 8 (w.heap.size) (0) (cellsB y) _ _ rfl rfl (by rfl) (by kernel_rfl) (by kernel_rfl) (by kernel_rfl) (fun _ _ _ h => h) rfl (fun w hw => hw.2.2.2) under_key rfl (key_info HYL.out) hS ?_
    simp only [List.getElem_toArray, List.getElem_cons_succ, List.getElem_cons_zero, Act.put, List.setIfInBounds_toArray, List.set_cons_zero, List.set_cons_succ]
    refine hg_calls 9 51 #[.agg (cellsB (KK 0)).toArray, .agg (cellsB y).toArray] rfl (by rfl) (by kernel_rfl) (by go_simp <;> rfl) ?_
    refine (HENC.out _).mono ?_
    rintro e v5 ⟨rfl, hb⟩
    have E1_ := bel_on E0 hb
    have hS1_ := HS.out _ E1_
    clear hb
    refine ⟨_, rfl, hS1_, ?_⟩
    simp only [List.getElem_toArray, List.getElem_cons_succ, List.getElem_cons_zero, Act.put, List.setIfInBounds_toArray, List.set_cons_zero, List.set_cons_succ]
    refine hg_take 10 (.bool false) rfl (by rfl) (by kernel_rfl) (by kernel_rfl) (by kernel_rfl) (fun _ _ _ h => h) (fun w hw => by have hx := equalIn_keys w (EK 0) (EK 0) E0L E0L; simp [go_sem, hx]) hS1_ ?_
    simp only [List.getElem_toArray, List.getElem_cons_succ, List.getElem_cons_zero, Act.put, List.setIfInBounds_toArray, List.set_cons_zero, List.set_cons_succ]
    refine hd_take 11 (_) rfl rfl (by kernel_rfl) (by kernel_rfl) (by kernel_rfl) (fun _ _ _ h => h) (fun w hw => by go_simp <;> rfl) hS1_ ?_
    simp only [List.getElem_toArray, List.getElem_cons_succ, List.getElem_cons_zero, Act.put, List.setIfInBounds_toArray, List.set_cons_zero, List.set_cons_succ]
    refine hd_take 12 (_) rfl rfl (by kernel_rfl) (by kernel_rfl) (by kernel_rfl) (fun _ _ _ h => h) (fun w hw => by go_simp <;> rfl) hS1_ ?_
    simp only [List.getElem_toArray, List.getElem_cons_succ, List.getElem_cons_zero, Act.put, List.setIfInBounds_toArray, List.set_cons_zero, List.set_cons_succ]
    refine hg_take 13 (_) rfl (by rfl) (by kernel_rfl) (by kernel_rfl) (by kernel_rfl) (fun _ _ _ h => h) (fun w hw => by go_simp <;> rfl) hS1_ ?_
    simp only [List.getElem_toArray, List.getElem_cons_succ, List.getElem_cons_zero, Act.put, List.setIfInBounds_toArray, List.set_cons_zero, List.set_cons_succ]
    refine hg_load 14 (G) (16) (cellsB ck) _ _ rfl rfl (by rfl) (by kernel_rfl) (by kernel_rfl) (by kernel_rfl) (fun _ _ _ h => h) rfl (fun w hw => hw.2.1) under_key rfl (key_info HQL.out) hS1_ ?_
    simp only [List.getElem_toArray, List.getElem_cons_succ, List.getElem_cons_zero, Act.put, List.setIfInBounds_toArray, List.set_cons_zero, List.set_cons_succ]
    refine hg_load 15 (w.heap.size) (0) (cellsB y) _ _ rfl rfl (by rfl) (by kernel_rfl) (by kernel_rfl) (by kernel_rfl) (fun _ _ _ h => h) rfl (fun w hw => hw.2.2.2) under_key rfl (key_info HYL.out) hS1_ ?_
    simp only [List.getElem_toArray, List.getElem_cons_succ, List.getElem_cons_zero, Act.put, List.setIfInBounds_toArray, List.set_cons_zero, List.set_cons_succ]
    refine hg_calls 16 49 #[.agg (cellsB y).toArray, .int .u8 53, .int .u64 0] rfl (by rfl) (by kernel_rfl) (by go_simp <;> rfl) ?_
    refine (HDER.out _).mono ?_
    rintro e v6 ⟨rfl, hb⟩
    have E2_ := bel_on E1_ hb
    have hS2_ := HS.out _ E2_
    clear hb
    refine ⟨_, rfl, hS2_, ?_⟩
    simp only [List.getElem_toArray, List.getElem_cons_succ, List.getElem_cons_zero, Act.put, List.setIfInBounds_toArray, List.set_cons_zero, List.set_cons_succ]
    refine hg_take 17 (.bool false) rfl (by rfl) (by kernel_rfl) (by kernel_rfl) (by kernel_rfl) (fun _ _ _ h => h) (fun w hw => by have hx := equalIn_keys w ck ck HQL HQL; simp [go_sem, hx]) hS2_ ?_
    simp only [List.getElem_toArray, List.getElem_cons_succ, List.getElem_cons_zero, Act.put, List.setIfInBounds_toArray, List.set_cons_zero, List.set_cons_succ]
    refine hd_take 18 (_) rfl rfl (by kernel_rfl) (by kernel_rfl) (by kernel_rfl) (fun _ _ _ h => h) (fun w hw => by go_simp <;> rfl) hS2_ ?_
    simp only [List.getElem_toArray, List.getElem_cons_succ, List.getElem_cons_zero, Act.put, List.setIfInBounds_toArray, List.set_cons_zero, List.set_cons_succ]
    refine wpAnyH_done (by kernel_rfl) (NoPanic.normal ?_) _
    have D5 := Lib.hid (bel_on D4.out E2_)
    have B5 := Lib.hid (B4.out.below' E2_)
    have X5 := Lib.hid (X4.out.below E2_)
    clear hS hS1_ hS2_ HS E0 E1_ E2_ B4 X4 Y4 Y1
    go_wp2_with fail
    go_loopw [10] (fun vi wr => ∃ (i j : Nat) (X : Option Addr) (x : Nat), i ≤ n ∧ vi = .int .i64 (i : Int) ∧ Hid (i = j + 1) ∧ Hid (Blk wr G 86 (recC (EK j) ck X L x).toArray) ∧ Hid (BR wr X x sd) ∧ Below w.heap.size w wr) (fun vi _ => n - (intOf vi).toNat)
    case atStart => exact ⟨1, 0, X, x, by omega, rfl, rfl, B5.out, X5.out, D5.out⟩
    case round =>
      obtain ⟨i, j, X, x, hi, rfl, HIJ, HB, HX, hbel⟩ := hrel
      have hij := HIJ.out
      have EJL := Lib.hid (HEL.out j (by omega))
      have KJL := Lib.hid (HK16.out j (by omega))
      have DB := Lib.hid hbel
      have hji : (j : Int) < n := by omega
      have hj0 : (0 : Int) ≤ j := by omega
      have HKJ : Hid (∀ W, Below w.heap.size w W → W.rangeAt kb (ko + j * 16) (cellsB (KK j))) := fun W hW => HKR.out W j (by omega) hW
      have HRI : Hid (∀ X x, (Tryz.prog.info? 86).map (·.size) = some (recC (EK j) ck X L x).length) := fun X x => by
        have hq := rec_info X L x EJL.out HQL.out
        rwa [List.size_toArray] at hq
      by_cases hlt : i < n
      · have hii : (i : Int) < n := by omega
        have hi0 : (0 : Int) ≤ i := by omega
        have hwr : IntKind.i64.wrap ((i : Int) - 1) = (j : Int) := by rw [IntKind.wrap_i64]; omega
        have EIL := Lib.hid (HEL.out i hlt)
        have KIL := Lib.hid (HK16.out i hlt)
        have HKI : Hid (∀ W, Below w.heap.size w W → W.rangeAt kb (ko + i * 16) (cellsB (KK i))) := fun W hW => HKR.out W i hlt hW
        have HRK : Hid (∀ W X x, BR W X x sd → Calls Tryz.prog 48 #[.agg (cellsB (KK j)).toArray, .agg (cellsB (KK i)).toArray, .agg (recC (EK j) ck X L x).toArray] W fun e w' => (∃ X x, e = .returned (.tuple #[.agg (recC (EK i) ck X L x).toArray, .int .i64 0]) ∧ OB W.heap.size w' X x sd) ∧ Below W.heap.size W w') := by
          rw [hij]
          exact HREK.out j (by omega)
        generalize KK i = ki at HKI HRK KIL
        obtain ⟨ei, hei⟩ : ∃ e, e = EK i := ⟨_, rfl⟩
        rw [← hei] at HRK EIL
        have HEI := Lib.hid hei
        clear hei
        obtain ⟨ej, hej⟩ : ∃ e, e = EK j := ⟨_, rfl⟩
        clear hij hbel hej ej
        go_wp2_with fail
        refine' (fun (HIN : ∀ (G2 : Nat) (X2 : Option Addr) (x2 : Nat) (V : World), (Blk V G2 86 (recC ei ck X2 L x2).toArray ∧ OB wr.heap.size V X2 x2 sd ∧ wr.heap.size ≤ G2 ∧ Below wr.heap.size wr V) → (_ : Nat → Option Addr → Nat → World → Prop) G2 X2 x2 V) => _) _
        rotate_left
        · have HS : Hid (∀ W, Below wr.heap.size wr W → W.rangeAt kb (ko + j * 16) (cellsB (KK j)) ∧ W.rangeAt kb (ko + i * 16) (cellsB ki) ∧ W.rangeAt G 0 (recC (EK j) ck X L x)) := fun W hW => ⟨HKJ.out W (bel_on DB.out hW), HKI.out W (bel_on DB.out hW), (HB.out.below' hW).range⟩
          have E0 : Below wr.heap.size wr wr := Below.refl _ _
          refine wp_region_noPanic ?_
          refine wp_region_held_drew (S := fun W => W.rangeAt kb (ko + j * 16) (cellsB (KK j)) ∧ W.rangeAt kb (ko + i * 16) (cellsB ki) ∧ W.rangeAt G 0 (recC (EK j) ck X L x)) (by kernel_rfl) (HS.out _ E0.drew) (fun hS => ?_)
          have E0 := E0.drew
          refine hd_take 0 (_) rfl rfl (by kernel_rfl) (by kernel_rfl) (by kernel_rfl) (fun _ _ _ h => h) (fun w hw => by go_simp <;> rfl) hS ?_
          simp only [List.getElem_toArray, List.getElem_cons_succ, List.getElem_cons_zero, Act.put, List.setIfInBounds_toArray, List.set_cons_zero, List.set_cons_succ]
          refine hd_take 1 (_) rfl rfl (by kernel_rfl) (by kernel_rfl) (by kernel_rfl) (fun _ _ _ h => h) (fun w hw => by go_simp <;> rfl) hS ?_
          simp only [List.getElem_toArray, List.getElem_cons_succ, List.getElem_cons_zero, Act.put, List.setIfInBounds_toArray, List.set_cons_zero, List.set_cons_succ]
          refine hd_take 2 (.int .i64 (j : Int)) rfl rfl (by kernel_rfl) (by kernel_rfl) (by kernel_rfl) (fun _ _ _ h => h) (fun w hw => by simp [go_sem, hwr]) hS ?_
          simp only [List.getElem_toArray, List.getElem_cons_succ, List.getElem_cons_zero, Act.put, List.setIfInBounds_toArray, List.set_cons_zero, List.set_cons_succ]
          refine hd_take 3 (_) rfl rfl (by kernel_rfl) (by kernel_rfl) (by kernel_rfl) (fun _ _ _ h => h) (fun w hw => by go_simp <;> rfl) hS ?_
          simp only [List.getElem_toArray, List.getElem_cons_succ, List.getElem_cons_zero, Act.put, List.setIfInBounds_toArray, List.set_cons_zero, List.set_cons_succ]
          refine hd_load 4 (kb) (ko + j * 16) (cellsB (KK j)) _ _ rfl rfl rfl (by kernel_rfl) (by kernel_rfl) (by kernel_rfl) (fun _ _ _ h => h) rfl (fun w hw => hw.1) under_key rfl (key_info KJL.out) hS ?_
          simp only [List.getElem_toArray, List.getElem_cons_succ, List.getElem_cons_zero, Act.put, List.setIfInBounds_toArray, List.set_cons_zero, List.set_cons_succ]
          refine hd_take 5 (_) rfl rfl (by kernel_rfl) (by kernel_rfl) (by kernel_rfl) (fun _ _ _ h => h) (fun w hw => by go_simp <;> rfl) hS ?_
          simp only [List.getElem_toArray, List.getElem_cons_succ, List.getElem_cons_zero, Act.put, List.setIfInBounds_toArray, List.set_cons_zero, List.set_cons_succ]
          refine hd_take 6 (_) rfl rfl (by kernel_rfl) (by kernel_rfl) (by kernel_rfl) (fun _ _ _ h => h) (fun w hw => by go_simp <;> rfl) hS ?_
          simp only [List.getElem_toArray, List.getElem_cons_succ, List.getElem_cons_zero, Act.put, List.setIfInBounds_toArray, List.set_cons_zero, List.set_cons_succ]
          refine hd_take 7 (_) rfl rfl (by kernel_rfl) (by kernel_rfl) (by kernel_rfl) (fun _ _ _ h => h) (fun w hw => by go_simp <;> rfl) hS ?_
          simp only [List.getElem_toArray, List.getElem_cons_succ, List.getElem_cons_zero, Act.put, List.setIfInBounds_toArray, List.set_cons_zero, List.set_cons_succ]
          refine hd_load 8 (kb) (ko + i * 16) (cellsB ki) _ _ rfl rfl rfl (by kernel_rfl) (by kernel_rfl) (by kernel_rfl) (fun _ _ _ h => h) rfl (fun w hw => hw.2.1) under_key rfl (key_info KIL.out) hS ?_
          simp only [List.getElem_toArray, List.getElem_cons_succ, List.getElem_cons_zero, Act.put, List.setIfInBounds_toArray, List.set_cons_zero, List.set_cons_succ]
          refine hd_load 9 (G) (0) (recC (EK j) ck X L x) _ _ rfl rfl rfl (by kernel_rfl) (by kernel_rfl) (by kernel_rfl) (fun _ _ _ h => h) rfl (fun w hw => hw.2.2) Tryz.underlying86 rfl (HRI.out X x) hS ?_
          simp only [List.getElem_toArray, List.getElem_cons_succ, List.getElem_cons_zero, Act.put, List.setIfInBounds_toArray, List.set_cons_zero, List.set_cons_succ]
          have EA := bel_on E0 (alloc_bel wr.drew (.cells (recC zeroK zeroK none 0 0).toArray 86))
          refine hd_two 10 14 (by kernel_rfl) (op_call 48 #[.agg (cellsB (KK j)).toArray, .agg (cellsB ki).toArray, .agg (recC (EK j) ck X L x).toArray] rfl rfl (by go_simp <;> rfl) ((HRK.out _ _ _ (HX.out.below E0)).mono ?_)) (op_run (.pointer (some ⟨wr.heap.size, 0, none⟩)) (wr.drew.alloc (.cells (recC zeroK zeroK none 0 0).toArray 86)) rfl rfl (by rw [← HZR.out]; go_simp) ⟨HS.out _ EA, ?_⟩)
          · rintro e v1 ⟨⟨X2, x2, rfl, hx⟩, hb⟩
            have E1 := bel_on E0 hb
            have hS1 := HS.out _ E1
            refine ⟨_, rfl, hS1, ?_⟩
            simp only [List.getElem_toArray, List.getElem_cons_succ, List.getElem_cons_zero, Act.put, List.setIfInBounds_toArray, List.set_cons_zero, List.set_cons_succ]
            refine hd_take 11 (_) rfl rfl (by kernel_rfl) (by kernel_rfl) (by kernel_rfl) (fun _ _ _ h => h) (fun w hw => by go_simp <;> rfl) hS1 ?_
            simp only [List.getElem_toArray, List.getElem_cons_succ, List.getElem_cons_zero, Act.put, List.setIfInBounds_toArray, List.set_cons_zero, List.set_cons_succ]
            refine hd_take 12 (_) rfl rfl (by kernel_rfl) (by kernel_rfl) (by kernel_rfl) (fun _ _ _ h => h) (fun w hw => by go_simp <;> rfl) hS1 ?_
            simp only [List.getElem_toArray, List.getElem_cons_succ, List.getElem_cons_zero, Act.put, List.setIfInBounds_toArray, List.set_cons_zero, List.set_cons_succ]
            refine hd_take 13 (_) rfl rfl (by kernel_rfl) (by kernel_rfl) (by kernel_rfl) (fun _ _ _ h => h) (fun w hw => by go_simp <;> rfl) hS1 ?_
            simp only [List.getElem_toArray, List.getElem_cons_succ, List.getElem_cons_zero, Act.put, List.setIfInBounds_toArray, List.set_cons_zero, List.set_cons_succ]
            obtain ⟨G2, hG⟩ : ∃ g, g = v1.heap.size := ⟨_, rfl⟩
            obtain ⟨v2, hv2⟩ : ∃ V, V = v1.alloc (.cells (recC zeroK zeroK none 0 0).toArray 86) := ⟨_, rfl⟩
            have E2 : Below wr.heap.size wr v2 := by rw [hv2]; exact bel_on E1 (alloc_bel v1 _)
            have hbk : Blk v2 G2 86 (recC zeroK zeroK none 0 0).toArray := by rw [hv2, hG]; exact Blk.new v1 _ _
            have hGb : wr.heap.size ≤ G2 := by rw [hG]; exact E1.size
            refine hd_sole 14 (by kernel_rfl) (op_run (.pointer (some ⟨G2, 0, none⟩)) v2 rfl rfl (by rw [hG, hv2, ← HZR.out]; go_simp) ⟨HS.out _ E2, ?_⟩)
            simp only [List.getElem_toArray, List.getElem_cons_succ, List.getElem_cons_zero, Act.put, List.setIfInBounds_toArray, List.set_cons_zero, List.set_cons_succ]
            refine hd_store 15 G2 (recC ei ck X2 L x2).toArray _ _ _ rfl rfl rfl (by kernel_rfl) rfl rfl hbk (rec_info _ _ _ EIL.out HQL.out) (rec_sizes zeroK_length zeroK_length _ _ _ EIL.out HQL.out _ _ _) (rec_all _ _ _ _ _) (HS.out _ (below_setRow E2 hGb _)) ?_
            simp only [List.getElem_toArray, List.getElem_cons_succ, List.getElem_cons_zero, Act.put, List.setIfInBounds_toArray, List.set_cons_zero, List.set_cons_succ]
            refine hd_take 16 (_) rfl rfl (by kernel_rfl) (by kernel_rfl) (by kernel_rfl) (fun _ _ _ h => h) (fun w hw => by go_simp <;> rfl) (HS.out _ (below_setRow E2 hGb _)) ?_
            refine wpAnyH_done (by kernel_rfl) (NoPanic.normal ?_) _
            simp only [List.getElem_toArray, List.getElem_cons_succ, List.getElem_cons_zero, Act.put, List.setIfInBounds_toArray, List.set_cons_zero, List.set_cons_succ]
            have hF1 : Blk (v2.setRow G2 (recC ei ck X2 L x2).toArray) G2 86 (recC ei ck X2 L x2).toArray := hbk.setRow _
            have hF2 : OB wr.heap.size (v2.setRow G2 (recC ei ck X2 L x2).toArray) X2 x2 sd := by rw [hv2, hG]; exact (hx.below (below_setRow (alloc_bel v1 _) (Nat.le_refl _) _)).le_ E0.size
            have hF3 := below_setRow E2 hGb (recC ei ck X2 L x2).toArray
            generalize v2.setRow G2 (recC ei ck X2 L x2).toArray = V at hF1 hF2 hF3 ⊢
            exact HIN G2 X2 x2 V ⟨hF1, hF2, hGb, hF3⟩
          · simp only [List.getElem_toArray, List.getElem_cons_succ, List.getElem_cons_zero, Act.put, List.setIfInBounds_toArray, List.set_cons_zero, List.set_cons_succ]
            obtain ⟨G2, hG⟩ : ∃ g, g = wr.heap.size := ⟨_, rfl⟩
            obtain ⟨va, hva⟩ : ∃ V, V = wr.drew.alloc (.cells (recC zeroK zeroK none 0 0).toArray 86) := ⟨_, rfl⟩
            rw [← hva] at EA ⊢
            rw [← hG]
            have hbk0 : Blk va G2 86 (recC zeroK zeroK none 0 0).toArray := by rw [hva, hG]; have h := Blk.new wr.drew 86 (recC zeroK zeroK none 0 0).toArray; first | exact h | simpa using h
            have hSa := HS.out _ EA
            refine hd_calls 10 48 #[.agg (cellsB (KK j)).toArray, .agg (cellsB ki).toArray, .agg (recC (EK j) ck X L x).toArray] rfl rfl (by kernel_rfl) (by go_simp <;> rfl) ?_
            refine (HRK.out _ _ _ (HX.out.below EA)).mono ?_
            rintro e v1 ⟨⟨X2, x2, rfl, hx⟩, hb⟩
            have E1 := bel_on EA hb
            have hS1 := HS.out _ E1
            refine ⟨_, rfl, hS1, ?_⟩
            simp only [List.getElem_toArray, List.getElem_cons_succ, List.getElem_cons_zero, Act.put, List.setIfInBounds_toArray, List.set_cons_zero, List.set_cons_succ]
            refine hd_take 11 (_) rfl rfl (by kernel_rfl) (by kernel_rfl) (by kernel_rfl) (fun _ _ _ h => h) (fun w hw => by go_simp <;> rfl) hS1 ?_
            simp only [List.getElem_toArray, List.getElem_cons_succ, List.getElem_cons_zero, Act.put, List.setIfInBounds_toArray, List.set_cons_zero, List.set_cons_succ]
            refine hd_take 12 (_) rfl rfl (by kernel_rfl) (by kernel_rfl) (by kernel_rfl) (fun _ _ _ h => h) (fun w hw => by go_simp <;> rfl) hS1 ?_
            simp only [List.getElem_toArray, List.getElem_cons_succ, List.getElem_cons_zero, Act.put, List.setIfInBounds_toArray, List.set_cons_zero, List.set_cons_succ]
            refine hd_take 13 (_) rfl rfl (by kernel_rfl) (by kernel_rfl) (by kernel_rfl) (fun _ _ _ h => h) (fun w hw => by go_simp <;> rfl) hS1 ?_
            simp only [List.getElem_toArray, List.getElem_cons_succ, List.getElem_cons_zero, Act.put, List.setIfInBounds_toArray, List.set_cons_zero, List.set_cons_succ]
            have hbk : Blk v1 G2 86 (recC zeroK zeroK none 0 0).toArray := hbk0.below' hb
            have hGb : wr.heap.size ≤ G2 := by rw [hG]; exact Nat.le_refl _
            refine hd_store 15 G2 (recC ei ck X2 L x2).toArray _ _ _ rfl rfl rfl (by kernel_rfl) rfl rfl hbk (rec_info _ _ _ EIL.out HQL.out) (rec_sizes zeroK_length zeroK_length _ _ _ EIL.out HQL.out _ _ _) (rec_all _ _ _ _ _) (HS.out _ (below_setRow E1 hGb _)) ?_
            simp only [List.getElem_toArray, List.getElem_cons_succ, List.getElem_cons_zero, Act.put, List.setIfInBounds_toArray, List.set_cons_zero, List.set_cons_succ]
            refine hd_take 16 (_) rfl rfl (by kernel_rfl) (by kernel_rfl) (by kernel_rfl) (fun _ _ _ h => h) (fun w hw => by go_simp <;> rfl) (HS.out _ (below_setRow E1 hGb _)) ?_
            refine wpAnyH_done (by kernel_rfl) (NoPanic.normal ?_) _
            simp only [List.getElem_toArray, List.getElem_cons_succ, List.getElem_cons_zero, Act.put, List.setIfInBounds_toArray, List.set_cons_zero, List.set_cons_succ]
            have hF1 : Blk (v1.setRow G2 (recC ei ck X2 L x2).toArray) G2 86 (recC ei ck X2 L x2).toArray := hbk.setRow _
            have hF2 : OB wr.heap.size (v1.setRow G2 (recC ei ck X2 L x2).toArray) X2 x2 sd := (OB.low hx hbk0.lt _).le_ EA.size
            have hF3 := below_setRow E1 hGb (recC ei ck X2 L x2).toArray
            generalize v1.setRow G2 (recC ei ck X2 L x2).toArray = V at hF1 hF2 hF3 ⊢
            exact HIN G2 X2 x2 V ⟨hF1, hF2, hGb, hF3⟩
        · intro G2 X2 x2 V2 hPP
          obtain ⟨hB6, hO6, hG6, hb6⟩ := hPP
          have D6 := Lib.hid (bel_on DB.out hb6)
          have B6 := Lib.hid hB6
          have C6 := Lib.hid (HB.out.below' hb6)
          have hlt6 : G < wr.heap.size := HB.out.lt
          have hne : G2 ≠ G := by omega
          have O6 := Lib.hid hO6
          have Z6 := Lib.hid (HX.out.below hb6)
          have hs1 : (convert 22 9 (.slice X2 L x2)).run Tryz.prog V2 = .ok (.string s1) V2 := by have := run_string_br (hO6.br (by rw [HBL.out]; omega)) _ HBL.out; rw [HS1.out] at this; exact this
          have hs2 : (convert 22 9 (.slice X L x)).run Tryz.prog V2 = .ok (.string s1) V2 := by have := run_string_br Z6.out _ HBL.out; rw [HS1.out] at this; exact this
          have k1 := (rec_parts B6.out EIL.out HQL.out).2.2
          have k2 := (rec_parts C6.out EJL.out HQL.out).2.2
          have hck := fun W => equalIn_keys W ck ck HQL HQL
          have HLT := Lib.hid hlt6
          have HGW2 : Hid (w.heap.size ≤ G) := by have := HGW.out; unfold Hid; omega
          clear hB6 hO6 hG6 hb6 hlt6 hne
          go_wp2_with (first
            | (refine BigFrame.wpList_want (by kernel_rfl) fun K hK => wp_load_mid 24 (.tmp 80) rfl G2 16 rfl (cellsB ck) _ (rec_parts B6.out EIL.out HQL.out).2.1 under_key rfl (key_info HQL.out) (hK _ _ ?_))
            | (refine BigFrame.wpList_want (by kernel_rfl) fun K hK => wp_load_mid 24 (.tmp 82) rfl G 16 rfl (cellsB ck) _ (rec_parts C6.out EJL.out HQL.out).2.1 under_key rfl (key_info HQL.out) (hK _ _ ?_))
            | (refine wpList_load_row rfl 86 (.tmp 11) rfl G2 rfl 86 (recC ei ck X2 L x2).toArray (0, 0) _ B6.out Tryz.underlying86 rfl (rec_info _ _ _ EIL.out HQL.out) ?_)
            | (refine wpList_store_row rfl 86 (.tmp 8) (.tmp 95) rfl G (recC ei ck X2 L x2).toArray rfl rfl 86 (recC (EK j) ck X L x).toArray C6.out (rec_info _ _ _ EIL.out HQL.out) (rec_sizes EJL.out HQL.out _ _ _ EIL.out HQL.out _ _ _) (rec_all _ _ _ _ _) ?_; obtain ⟨V3, hV⟩ : ∃ W, W = V2.setRow G (recC ei ck X2 L x2).toArray := ⟨_, rfl⟩; rw [← hV]; have D7 : Below w.heap.size w V3 := (by rw [hV]; exact below_setRow D6.out HGW2.out _); have B7 : Hid (Blk V3 G 86 (recC ei ck X2 L x2).toArray) := (by unfold Hid; rw [hV]; exact C6.out.setRow _); have X7 : Hid (BR V3 X2 x2 sd) := (by unfold Hid; rw [hV]; exact (OB.low O6.out HLT.out _).br (by rw [HBL.out]; omega)); clear hV))
          go_roundw
          case rel => exact ⟨i + 1, i, X2, x2, by omega, by go_num, rfl, by rw [← HEI.out]; exact B7.out, X7.out, D7⟩
          case measure => simp [intOf]; omega
      · obtain rfl : i = n := by omega
        have hii : (i : Int) ≤ i := Int.le_refl _
        have hwr : IntKind.i64.wrap ((i : Int) - 1) = (j : Int) := by rw [IntKind.wrap_i64]; omega
        have HPJ := Lib.hid (HPLY.out j (by omega))
        clear hij hbel
        go_wp2_with fail
        have HS : Hid (∀ W, Below wr.heap.size wr W → W.rangeAt kb (ko + j * 16) (cellsB (KK j)) ∧ W.rangeAt G 0 (recC (EK j) ck X L x)) := fun W hW => ⟨HKJ.out W (bel_on DB.out hW), (HB.out.below' hW).range⟩
        have E0 : Below wr.heap.size wr wr := Below.refl _ _
        refine wp_region_noPanic ?_
        refine wp_region_held_drew (S := fun W => W.rangeAt kb (ko + j * 16) (cellsB (KK j)) ∧ W.rangeAt G 0 (recC (EK j) ck X L x)) (by kernel_rfl) (HS.out _ E0.drew) (fun hS => ?_)
        have E0 := E0.drew
        refine hd_take 0 (_) rfl rfl (by kernel_rfl) (by kernel_rfl) (by kernel_rfl) (fun _ _ _ h => h) (fun w hw => by go_simp <;> rfl) hS ?_
        simp only [List.getElem_toArray, List.getElem_cons_succ, List.getElem_cons_zero, Act.put, List.setIfInBounds_toArray, List.set_cons_zero, List.set_cons_succ]
        refine hd_take 1 (_) rfl rfl (by kernel_rfl) (by kernel_rfl) (by kernel_rfl) (fun _ _ _ h => h) (fun w hw => by go_simp <;> rfl) hS ?_
        simp only [List.getElem_toArray, List.getElem_cons_succ, List.getElem_cons_zero, Act.put, List.setIfInBounds_toArray, List.set_cons_zero, List.set_cons_succ]
        refine hd_take 2 (_) rfl rfl (by kernel_rfl) (by kernel_rfl) (by kernel_rfl) (fun _ _ _ h => h) (fun w hw => by go_simp <;> rfl) hS ?_
        simp only [List.getElem_toArray, List.getElem_cons_succ, List.getElem_cons_zero, Act.put, List.setIfInBounds_toArray, List.set_cons_zero, List.set_cons_succ]
        refine hd_take 3 (.int .i64 (j : Int)) rfl rfl (by kernel_rfl) (by kernel_rfl) (by kernel_rfl) (fun _ _ _ h => h) (fun w hw => by simp [go_sem, hwr]) hS ?_
        simp only [List.getElem_toArray, List.getElem_cons_succ, List.getElem_cons_zero, Act.put, List.setIfInBounds_toArray, List.set_cons_zero, List.set_cons_succ]
        refine hd_take 4 (_) rfl rfl (by kernel_rfl) (by kernel_rfl) (by kernel_rfl) (fun _ _ _ h => h) (fun w hw => by go_simp <;> rfl) hS ?_
        simp only [List.getElem_toArray, List.getElem_cons_succ, List.getElem_cons_zero, Act.put, List.setIfInBounds_toArray, List.set_cons_zero, List.set_cons_succ]
        refine hd_load 5 (kb) (ko + j * 16) (cellsB (KK j)) _ _ rfl rfl rfl (by kernel_rfl) (by kernel_rfl) (by kernel_rfl) (fun _ _ _ h => h) rfl (fun w hw => hw.1) under_key rfl (key_info KJL.out) hS ?_
        simp only [List.getElem_toArray, List.getElem_cons_succ, List.getElem_cons_zero, Act.put, List.setIfInBounds_toArray, List.set_cons_zero, List.set_cons_succ]
        refine hd_load 6 (G) (0) (recC (EK j) ck X L x) _ _ rfl rfl rfl (by kernel_rfl) (by kernel_rfl) (by kernel_rfl) (fun _ _ _ h => h) rfl (fun w hw => hw.2) Tryz.underlying86 rfl (HRI.out X x) hS ?_
        simp only [List.getElem_toArray, List.getElem_cons_succ, List.getElem_cons_zero, Act.put, List.setIfInBounds_toArray, List.set_cons_zero, List.set_cons_succ]
        refine hd_calls 7 47 #[.agg (cellsB (KK j)).toArray, .agg (recC (EK j) ck X L x).toArray] rfl rfl (by kernel_rfl) (by go_simp <;> rfl) ?_
        refine (HPJ.out _ _ _ (HX.out.below E0)).mono ?_
        rintro e v9 ⟨⟨PA, pa, rfl, hp⟩, hb⟩
        have E1_ := bel_on E0 hb
        have hS1_ := HS.out _ E1_
        have P9 := Lib.hid hp
        clear hp
        clear hb
        refine ⟨_, rfl, hS1_, ?_⟩
        simp only [List.getElem_toArray, List.getElem_cons_succ, List.getElem_cons_zero, Act.put, List.setIfInBounds_toArray, List.set_cons_zero, List.set_cons_succ]
        refine hd_take 8 (_) rfl rfl (by kernel_rfl) (by kernel_rfl) (by kernel_rfl) (fun _ _ _ h => h) (fun w hw => by go_simp <;> rfl) hS1_ ?_
        simp only [List.getElem_toArray, List.getElem_cons_succ, List.getElem_cons_zero, Act.put, List.setIfInBounds_toArray, List.set_cons_zero, List.set_cons_succ]
        refine hd_take 9 (_) rfl rfl (by kernel_rfl) (by kernel_rfl) (by kernel_rfl) (fun _ _ _ h => h) (fun w hw => by go_simp <;> rfl) hS1_ ?_
        simp only [List.getElem_toArray, List.getElem_cons_succ, List.getElem_cons_zero, Act.put, List.setIfInBounds_toArray, List.set_cons_zero, List.set_cons_succ]
        refine hd_take 10 (_) rfl rfl (by kernel_rfl) (by kernel_rfl) (by kernel_rfl) (fun _ _ _ h => h) (fun w hw => by go_simp <;> rfl) hS1_ ?_
        simp only [List.getElem_toArray, List.getElem_cons_succ, List.getElem_cons_zero, Act.put, List.setIfInBounds_toArray, List.set_cons_zero, List.set_cons_succ]
        refine hd_take 11 (_) rfl rfl (by kernel_rfl) (by kernel_rfl) (by kernel_rfl) (fun _ _ _ h => h) (fun w hw => by go_simp <;> rfl) hS1_ ?_
        simp only [List.getElem_toArray, List.getElem_cons_succ, List.getElem_cons_zero, Act.put, List.setIfInBounds_toArray, List.set_cons_zero, List.set_cons_succ]
        refine hd_take 12 (_) rfl rfl (by kernel_rfl) (by kernel_rfl) (by kernel_rfl) (fun _ _ _ h => h) (fun w hw => by go_simp <;> rfl) hS1_ ?_
        simp only [List.getElem_toArray, List.getElem_cons_succ, List.getElem_cons_zero, Act.put, List.setIfInBounds_toArray, List.set_cons_zero, List.set_cons_succ]
        refine wpAnyH_done (by kernel_rfl) (NoPanic.normal ?_) _
        have D9 := Lib.hid (bel_on DB.out E1_)
        have hs1 : (convert 22 9 (.slice PA L pa)).run Tryz.prog v9 = .ok (.string s2) v9 := by have := run_string_br P9.out _ HBB.out; rw [HS2.out] at this; exact this
        have hs2 : (convert 22 9 (.slice D L cD)).run Tryz.prog v9 = .ok (.string s2) v9 := by have := run_string_br (HDB.out.below D9.out) _ HBB.out; rw [HS2.out] at this; exact this
        clear hS hS1_ HS E0 E1_
        go_wp2_with fail
        go_ret
        exact ⟨rfl, D9.out⟩
theorem auditRekeyed_walk (y : List UInt8) (D : Option Addr) (cD : Nat) (b : List UInt8) (A : Option Addr) (c : Nat) (ks : List (List UInt8)) (w : World) (hy : y.length = 16) (hD : BR w D cD b) (hk : KR w A c ks) (hc : c * 16 ≤ 140737488351232) (hT : TestsIn w) :
    Calls Tryz.prog 15 #[.agg (cellsB y).toArray, .slice D b.length cD, .slice A ks.length c] w fun e w' => e = .returned (.bool true) ∧ Below w.heap.size w w' := by
  have HA : Hid (∀ W, Below w.heap.size w W → Calls Tryz.prog 25 #[] W fun e w' => e = .returned (.bool true) ∧ Below W.heap.size W w') := fun W hW => alive_any W (range_below hT hW)
  by_cases hbad : ks.length < 1 ∨ 100 < ks.length ∨ 16384 < b.length
  · exact rekeyed_early y b D cD ks A c w rfl rfl hy hD hk HA hbad
  · exact rekeyed_good y b D cD ks A c w rfl rfl hy hD hk HA (by omega) (by omega) (by omega)
end Go.Proofs.YtinpiodfpnbllaaGreatDoor
