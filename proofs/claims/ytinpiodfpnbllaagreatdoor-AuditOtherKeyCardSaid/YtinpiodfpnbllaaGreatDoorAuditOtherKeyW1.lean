/-
  Lemmas and contracts, joined.
-/
import Derived.Test.YtinpiodfpnbllaaGreatDoorAuE1
import Derived.Test.YtinpiodfpnbllaaGreatDoorAuR1
import Derived.Test.YtinpiodfpnbllaaGreatDoorAuB1
set_option linter.unusedSimpArgs false
set_option linter.unusedVariables false
set_option linter.unnecessarySimpa false
/- The law AuditOtherKey: the walk. -/
namespace Go.Proofs.YtinpiodfpnbllaaGreatDoor
open Go.RowKit
set_option linter.unusedVariables false
set_option linter.unusedSimpArgs false
attribute [local go_sem] equalIn_keys

theorem recOf_box {w : World} {g : Nat} {x q : List UInt8} {D : Option Addr} {M c : Nat} (h : Blk w g 86 (recC x q D M c).toArray) (hx : x.length = 16) (hq : q.length = 16) : w.rangeAt g 0 (cellsB x) ∧ w.rangeAt g 16 (cellsB q) ∧ w.cell? ⟨g, 32, none⟩ = some (.slice D M c) := by
  have hr := h.range
  have h1 : (cellsB x).length = 16 := by rw [cellsB_length, hx]
  have h2 : (cellsB q).length = 16 := by rw [cellsB_length, hq]
  refine ⟨fun j v hv => ?_, fun j v hv => ?_, ?_⟩
  · have := hr j v (by rw [recC, List.getElem?_append_left (by have := (List.getElem?_eq_some_iff.1 hv).1; omega)]; exact hv)
    exact this
  · have hj := (List.getElem?_eq_some_iff.1 hv).1
    have := hr (16 + j) v (by rw [recC, List.getElem?_append_right (by omega), List.getElem?_append_left (by omega)]; rw [show 16 + j - (cellsB x).length = j from by omega]; exact hv)
    rw [Nat.zero_add] at this
    exact this
  · have := hr 32 (.slice D M c) (by rw [recC, List.getElem?_append_right (by omega), List.getElem?_append_right (by omega)]; rw [show 32 - (cellsB x).length - (cellsB q).length = 0 from by omega]; rfl)
    exact this
theorem zeroRec : (#[.int .u8 0, .int .u8 0, .int .u8 0, .int .u8 0, .int .u8 0, .int .u8 0, .int .u8 0, .int .u8 0, .int .u8 0, .int .u8 0, .int .u8 0, .int .u8 0, .int .u8 0, .int .u8 0, .int .u8 0, .int .u8 0, .int .u8 0, .int .u8 0, .int .u8 0, .int .u8 0, .int .u8 0, .int .u8 0, .int .u8 0, .int .u8 0, .int .u8 0, .int .u8 0, .int .u8 0, .int .u8 0, .int .u8 0, .int .u8 0, .int .u8 0, .int .u8 0, .slice none 0 0] : Array Value) = (recC zeroK zeroK none 0 0).toArray := rfl
theorem keybox4_ (w : World) (c0 z0 : Array Value) (t0 : TypeId) {W : World} (hW : W = (w.alloc (.cells z0 t0)).setRow w.heap.size c0) : Below w.heap.size w W ∧ Blk W w.heap.size t0 c0 := by
  subst hW
  exact ⟨below_setRow (alloc_bel w _) (Nat.le_refl _) _, (Blk.new w _ _).setRow _⟩

set_option maxHeartbeats 4000000 in
set_option maxRecDepth 100000 in
theorem otherKey_big (k a x q : List UInt8) (D : Option Addr) (cD : Nat) (z : List UInt8) (w : World) (hk : k.length = 16) (ha : a.length = 16) (hx : x.length = 16) (hq : q.length = 16) {M : Nat} (hM : z.length = M) (hz : BR w D cD z) (HA : Hid (∀ W, Below w.heap.size w W → Calls Tryz.prog 25 #[] W fun e w' => e = .returned (.bool true) ∧ Below W.heap.size W w')) (hbig : 16384 < M) :
    Calls Tryz.prog 12 #[.agg (cellsB k).toArray, .agg (cellsB a).toArray, .agg (recC x q D M cD).toArray] w fun e w' => e = .returned (.bool true) ∧ Below w.heap.size w w' := by
  obtain ⟨W0, hW0⟩ : ∃ W, W = ((w.alloc (.cells (cellsB k).toArray 24)).alloc (.cells (cellsB a).toArray 24)).alloc (.cells (recC x q D M cD).toArray 86) := ⟨_, rfl⟩
  have D0 : Hid (Below w.heap.size w W0) := by unfold Hid; rw [hW0]; exact alloc3_bel w _ _ _
  have K0 : Hid (Blk W0 w.heap.size 24 (cellsB k).toArray) := by unfold Hid; rw [hW0]; exact blk_a0 w _ _ _ _
  have A0 : Hid (Blk W0 (w.heap.size + 1) 24 (cellsB a).toArray) := by unfold Hid; rw [hW0]; exact blk_a1 w _ _ _ _
  have R0 : Hid (Blk W0 (w.heap.size + 1 + 1) 86 (recC x q D M cD).toArray) := by unfold Hid; rw [hW0]; exact blk_a2 w _ _ _ _
  have hm0 : (M : Int) ≤ 140737488351232 := by have := hz.len; omega
  have HW0 := Lib.hid hW0
  have HK := Lib.hid hk
  have HAA := Lib.hid ha
  have HX := Lib.hid hx
  have HQ := Lib.hid hq
  have HM := Lib.hid hM
  have HBZ := Lib.hid hz
  have hbi : (16384 : Int) < M := by omega
  clear hW0 hk ha hx hq hM hz hbig
  go_enter Tryz.func12, Tryz.ntmps12
  go_wp2_with (go_at_call 25; rw [← HW0.out]; (with_reducible refine (HA.out _ D0.out).mono ?_); rintro e w1 ⟨rfl, hb⟩; have D1 := Lib.hid (bel_on D0.out hb); have K1 := Lib.hid (K0.out.below' hb); have A1 := Lib.hid (A0.out.below' hb); have R1 := Lib.hid (R0.out.below' hb); have c1 := (recOf_box R1.out HX.out HQ.out).2.2; clear hb)
  go_ret
  exact ⟨rfl, D1.out⟩
set_option maxHeartbeats 8000000 in
set_option maxRecDepth 100000 in
theorem otherKey_bad (k a x q : List UInt8) (D : Option Addr) (cD : Nat) (z : List UInt8) (w : World) (hk : k.length = 16) (ha : a.length = 16) (hx : x.length = 16) (hq : q.length = 16) {M : Nat} (hM : z.length = M) (hz : BR w D cD z) (HA : Hid (∀ W, Below w.heap.size w W → Calls Tryz.prog 25 #[] W fun e w' => e = .returned (.bool true) ∧ Below W.heap.size W w')) (hsm : M ≤ 16384) (hne : ¬ chkS (decS k x) = q) :
    Calls Tryz.prog 12 #[.agg (cellsB k).toArray, .agg (cellsB a).toArray, .agg (recC x q D M cD).toArray] w fun e w' => e = .returned (.bool true) ∧ Below w.heap.size w w' := by
  have e1 : plyS k x q z = ([], 53) := by unfold plyS; rw [if_neg (by omega), if_neg hne]
  have e2 : rekS k a x q z = ⟨zeroK, zeroK, [], 53⟩ := by unfold rekS noRec; rw [if_neg hne]
  have HD : Hid (∀ W, Calls Tryz.prog 46 #[.agg (cellsB k).toArray, .agg (cellsB x).toArray] W fun e w' => e = .returned (.agg (cellsB (decS k x)).toArray) ∧ Below W.heap.size W w') := fun W => Decrypt_any k x W hk hx
  have HDL : Hid ((decS k x).length = 16) := rfl
  have HC : Hid (∀ W, Calls Tryz.prog 49 #[.agg (cellsB (decS k x)).toArray, .int .u8 53, .int .u64 0] W fun e w' => e = .returned (.agg (cellsB (chkS (decS k x))).toArray) ∧ Below W.heap.size W w') := fun W => Derive_any (decS k x) 53 0 W rfl
  have HCH : Hid ((chkS (decS k x)).length = 16) := rfl
  have HRI : Hid ((Tryz.prog.info? 86).map (·.size) = some (recC x q D M cD).toArray.size) := by unfold Hid; rw [List.size_toArray, recC_length D M cD hx hq]; kernel_rfl
  have HNI : Hid (∀ NA nc, (Tryz.prog.info? 86).map (·.size) = some (recC (rekS k a x q z).x (rekS k a x q z).c NA (rekS k a x q z).d.length nc).toArray.size) := fun NA nc => by rw [List.size_toArray, recC_length NA _ nc (rekS_x k a x q z) (rekS_c k a x q z hq)]; kernel_rfl
  have HNX : Hid ((rekS k a x q z).x.length = 16) := rekS_x k a x q z
  have HNQ : Hid ((rekS k a x q z).c.length = 16) := rekS_c k a x q z hq
  have HP : Hid (∀ W, BR W D cD z → Calls Tryz.prog 47 #[.agg (cellsB k).toArray, .agg (recC x q D M cD).toArray] W fun e w' => (∃ BA bc, e = .returned (.tuple #[.slice BA (plyS k x q z).1.length bc, .int .i64 (plyS k x q z).2]) ∧ BR w' BA bc (plyS k x q z).1) ∧ Below W.heap.size W w') := fun W h => (Play_any k x q D cD z W hM h hk hx hq).mono fun e w' ⟨⟨A, c, he, ho⟩, hb⟩ => ⟨⟨A, c, he, ho.br (by have := plyS_l k x q z; have := h.len; omega)⟩, hb⟩
  have HR : Hid (∀ W, BR W D cD z → Calls Tryz.prog 48 #[.agg (cellsB k).toArray, .agg (cellsB a).toArray, .agg (recC x q D M cD).toArray] W fun e w' => (∃ NA nc, e = .returned (.tuple #[.agg (recC (rekS k a x q z).x (rekS k a x q z).c NA (rekS k a x q z).d.length nc).toArray, .int .i64 (rekS k a x q z).e])) ∧ Below W.heap.size W w') := fun W h => (Rekey_any k a x q D cD z W hM h hk ha hx hq).mono fun e w' ⟨⟨A, c, he, ho⟩, hb⟩ => ⟨⟨A, c, he⟩, hb⟩
  rw [e1] at HP
  rw [e2] at HNI HNX HNQ HR
  have HNE : Hid ((chkS (decS k x) == q) = false) := by unfold Hid; simpa using hne
  generalize chkS (decS k x) = ch at HC HCH HNE
  generalize decS k x = d at HD HDL HC
  obtain ⟨nx, hnx⟩ : ∃ n, n = zeroK := ⟨_, rfl⟩
  obtain ⟨nq, hnq⟩ : ∃ n, n = zeroK := ⟨_, rfl⟩
  obtain ⟨nl, hnl⟩ : ∃ n, n = 0 := ⟨_, rfl⟩
  dsimp only at HNI HNX HNQ HR HP
  obtain ⟨W0, hW0⟩ : ∃ W, W = ((w.alloc (.cells (cellsB k).toArray 24)).alloc (.cells (cellsB a).toArray 24)).alloc (.cells (recC x q D M cD).toArray 86) := ⟨_, rfl⟩
  have D0 : Hid (Below w.heap.size w W0) := by unfold Hid; rw [hW0]; exact alloc3_bel w _ _ _
  have K0 : Hid (Blk W0 w.heap.size 24 (cellsB k).toArray) := by unfold Hid; rw [hW0]; exact blk_a0 w _ _ _ _
  have A0 : Hid (Blk W0 (w.heap.size + 1) 24 (cellsB a).toArray) := by unfold Hid; rw [hW0]; exact blk_a1 w _ _ _ _
  have R0 : Hid (Blk W0 (w.heap.size + 1 + 1) 86 (recC x q D M cD).toArray) := by unfold Hid; rw [hW0]; exact blk_a2 w _ _ _ _
  have hm0 : (M : Int) ≤ 140737488351232 := by have := hz.len; omega
  have HW0 := Lib.hid hW0
  have HK := Lib.hid hk
  have HAA := Lib.hid ha
  have HX := Lib.hid hx
  have HQ := Lib.hid hq
  have HM := Lib.hid hM
  have HBZ := Lib.hid hz
  have hsi : (M : Int) ≤ 16384 := by omega
  clear hW0 hk ha hx hq hM hz hsm hne e1 e2
  go_enter Tryz.func12, Tryz.ntmps12
  go_wp2_with (first
    | (go_at_call 25; rw [← HW0.out]; (with_reducible refine (HA.out _ D0.out).mono ?_); rintro e w1 ⟨rfl, hb⟩; have D1 := Lib.hid (bel_on D0.out hb); have K1 := Lib.hid (K0.out.below' hb); have A1 := Lib.hid (A0.out.below' hb); have R1 := Lib.hid (R0.out.below' hb); have c1 := (recOf_box R1.out HX.out HQ.out).2.2; clear hb)
    | (refine wpList_load_row rfl 24 (.tmp 3) rfl w.heap.size rfl 24 (cellsB k).toArray (0, 0) _ K1.out under_key rfl (cellsB_size _ HK.out) ?_)
    | (refine wpList_load_mid rfl 24 (.tmp 22) rfl (w.heap.size + 1 + 1) 0 rfl (cellsB x) _ (recOf_box R1.out HX.out HQ.out).1 under_key rfl (key_info HX.out) ?_)
    | (go_at_call 46; (with_reducible refine (HD.out _).mono ?_); rintro e w2 ⟨rfl, hb⟩; have D2 := Lib.hid (bel_on D1.out hb); have K2 := Lib.hid (K1.out.below' hb); have A2 := Lib.hid (A1.out.below' hb); have R2 := Lib.hid (R1.out.below' hb); clear hb c1)
    | ((first | rw [zero16] | skip); refine wpList_store_row rfl 24 (.tmp 8) (.tmp 24) rfl w2.heap.size (cellsB d).toArray rfl rfl 24 (cellsB zeroK).toArray (Blk.new w2 _ _) (cellsB_size _ HDL.out) (cellsB_sizes _ _ zeroK_length HDL.out) (cellsB_all _) ?_; obtain ⟨W3, hV⟩ : ∃ W, W = (w2.alloc (.cells (cellsB zeroK).toArray 24)).setRow w2.heap.size (cellsB d).toArray := ⟨_, rfl⟩; rw [← hV]; obtain ⟨hb, nb⟩ := keybox4_ _ _ _ _ hV; have D3 := Lib.hid (bel_on D2.out hb); have K3 := Lib.hid (K2.out.below' hb); have A3 := Lib.hid (A2.out.below' hb); have R3 := Lib.hid (R2.out.below' hb); have C3 := Lib.hid nb; clear hV hb nb)
    | (refine wpList_load_row rfl 24 (.tmp 3) rfl w.heap.size rfl 24 (cellsB k).toArray (0, 0) _ K3.out under_key rfl (cellsB_size _ HK.out) ?_)
    | (refine wpList_load_row rfl 24 (.tmp 4) rfl (w.heap.size + 1) rfl 24 (cellsB a).toArray (0, 0) _ A3.out under_key rfl (cellsB_size _ HAA.out) ?_)
    | (refine wpList_load_row rfl 86 (.tmp 5) rfl (w.heap.size + 1 + 1) rfl 86 (recC x q D M cD).toArray (0, 0) _ R3.out Tryz.underlying86 rfl HRI.out ?_)
    | (go_at_call 47; (with_reducible refine (HP.out _ (HBZ.out.below D3.out)).mono ?_); rintro e w4 ⟨⟨BA, bc, rfl, ho⟩, hb⟩; have D4 := Lib.hid (bel_on D3.out hb); have K4 := Lib.hid (K3.out.below' hb); have A4 := Lib.hid (A3.out.below' hb); have R4 := Lib.hid (R3.out.below' hb); have C4 := Lib.hid (C3.out.below' hb); have B4 := Lib.hid ho; clear hb ho)
    | (refine wpList_load_row rfl 24 (.tmp 3) rfl w.heap.size rfl 24 (cellsB k).toArray (0, 0) _ K4.out under_key rfl (cellsB_size _ HK.out) ?_)
    | (refine wpList_load_row rfl 24 (.tmp 4) rfl (w.heap.size + 1) rfl 24 (cellsB a).toArray (0, 0) _ A4.out under_key rfl (cellsB_size _ HAA.out) ?_)
    | (refine wpList_load_row rfl 86 (.tmp 5) rfl (w.heap.size + 1 + 1) rfl 86 (recC x q D M cD).toArray (0, 0) _ R4.out Tryz.underlying86 rfl HRI.out ?_)
    | (go_at_call 48; (with_reducible refine (HR.out _ (HBZ.out.below D4.out)).mono ?_); rintro e w5 ⟨⟨NA, nc, rfl⟩, hb⟩; have D5 := Lib.hid (bel_on D4.out hb); have A5 := Lib.hid (A4.out.below' hb); have R5 := Lib.hid (R4.out.below' hb); have C5 := Lib.hid (C4.out.below' hb); have B5 := Lib.hid (B4.out.below hb); clear hb)
    | ((first | rw [zeroRec] | skip); refine wpList_store_row rfl 86 (.tmp 11) (.tmp 36) rfl w5.heap.size (recC zeroK zeroK NA 0 nc).toArray rfl rfl 86 (recC zeroK zeroK none 0 0).toArray (Blk.new w5 _ _) (HNI.out NA nc) (by rw [List.size_toArray, List.size_toArray, recC_length none 0 0 zeroK_length zeroK_length, recC_length NA 0 nc HNX.out HNQ.out]) (by simpa using recC_all zeroK zeroK NA 0 nc) ?_; obtain ⟨W6, hV⟩ : ∃ W, W = (w5.alloc (.cells (recC zeroK zeroK none 0 0).toArray 86)).setRow w5.heap.size (recC zeroK zeroK NA 0 nc).toArray := ⟨_, rfl⟩; rw [← hV]; obtain ⟨hb, nb⟩ := keybox4_ _ _ _ _ hV; have D6 := Lib.hid (bel_on D5.out hb); have A6 := Lib.hid (A5.out.below' hb); have R6 := Lib.hid (R5.out.below' hb); have C6 := Lib.hid (C5.out.below' hb); have B6 := Lib.hid (B5.out.below hb); have N6 := Lib.hid nb; clear hV hb nb))
  have HS : Hid (∀ W, Below W6.heap.size W6 W → W.rangeAt w2.heap.size 0 (cellsB d) ∧ W.rangeAt (w.heap.size + 1 + 1) 16 (cellsB q)) := fun W hW => ⟨(C6.out.below' hW).range, (recOf_box (R6.out.below' hW) HX.out HQ.out).2.1⟩
  have E0 : Below W6.heap.size W6 W6 := Below.refl _ _
  refine wp_region_noPanic ?_
  refine wp_region_held_drew (S := fun W => W.rangeAt w2.heap.size 0 (cellsB d) ∧ W.rangeAt (w.heap.size + 1 + 1) 16 (cellsB q)) (by kernel_rfl) (HS.out _ E0.drew) (fun hS => ?_)
  have E0 := E0.drew
  refine hd_load 0 (w2.heap.size) (0) (cellsB d) _ _ rfl rfl rfl (by kernel_rfl) (by kernel_rfl) (by kernel_rfl) (fun _ _ _ h => h) rfl (fun w hw => hw.1) under_key rfl (key_info HDL.out) hS ?_
  simp only [List.getElem_toArray, List.getElem_cons_succ, List.getElem_cons_zero, Act.put, List.setIfInBounds_toArray, List.set_cons_zero, List.set_cons_succ]
  refine hd_take 2 (_) rfl rfl (by kernel_rfl) (by kernel_rfl) (by kernel_rfl) (fun _ _ _ h => h) (fun w hw => by go_simp <;> rfl) hS ?_
  simp only [List.getElem_toArray, List.getElem_cons_succ, List.getElem_cons_zero, Act.put, List.setIfInBounds_toArray, List.set_cons_zero, List.set_cons_succ]
  refine hd_load 3 (w.heap.size + 1 + 1) (16) (cellsB q) _ _ rfl rfl rfl (by kernel_rfl) (by kernel_rfl) (by kernel_rfl) (fun _ _ _ h => h) rfl (fun w hw => hw.2) under_key rfl (key_info HQ.out) hS ?_
  simp only [List.getElem_toArray, List.getElem_cons_succ, List.getElem_cons_zero, Act.put, List.setIfInBounds_toArray, List.set_cons_zero, List.set_cons_succ]
  refine hd_calls 1 49 #[.agg (cellsB d).toArray, .int .u8 53, .int .u64 0] rfl rfl (by kernel_rfl) (by go_simp <;> rfl) ?_
  refine (HC.out _).mono ?_
  rintro e w7 ⟨rfl, hb⟩
  have E1_ := bel_on E0 hb
  have hS1_ := HS.out _ E1_
  clear hb
  refine ⟨_, rfl, hS1_, ?_⟩
  simp only [List.getElem_toArray, List.getElem_cons_succ, List.getElem_cons_zero, Act.put, List.setIfInBounds_toArray, List.set_cons_zero, List.set_cons_succ]
  refine hd_take 4 (.bool true) rfl rfl (by kernel_rfl) (by kernel_rfl) (by kernel_rfl) (fun _ _ _ h => h) (fun w hw => by have hx := equalIn_keys w ch q HCH HQ; simp [go_sem, hx, HNE.out]) hS1_ ?_
  simp only [List.getElem_toArray, List.getElem_cons_succ, List.getElem_cons_zero, Act.put, List.setIfInBounds_toArray, List.set_cons_zero, List.set_cons_succ]
  refine wpAnyH_done (by kernel_rfl) (NoPanic.normal ?_) _
  have D7 := Lib.hid (bel_on D6.out E1_)
  have A7 := Lib.hid (A6.out.below' E1_)
  have C7 := Lib.hid (C6.out.below' E1_)
  have B7 := Lib.hid (B6.out.below E1_)
  have N7 := Lib.hid (N6.out.below' E1_)
  have R7 := Lib.hid (R6.out.below' E1_)
  clear hS hS1_ HS E0 E1_
  have n7 := (recOf_box N7.out zeroK_length zeroK_length).2.2
  go_wp2_with fail
  go_ret
  exact ⟨rfl, D7.out⟩
set_option maxHeartbeats 8000000 in
set_option maxRecDepth 100000 in
theorem otherKey_good (k a x q : List UInt8) (D : Option Addr) (cD : Nat) (z : List UInt8) (w : World) (hk : k.length = 16) (ha : a.length = 16) (hx : x.length = 16) (hq : q.length = 16) {M : Nat} (hM : z.length = M) (hz : BR w D cD z) (HA : Hid (∀ W, Below w.heap.size w W → Calls Tryz.prog 25 #[] W fun e w' => e = .returned (.bool true) ∧ Below W.heap.size W w')) (hsm : M ≤ 16384) (heq : chkS (decS k x) = q) :
    Calls Tryz.prog 12 #[.agg (cellsB k).toArray, .agg (cellsB a).toArray, .agg (recC x q D M cD).toArray] w fun e w' => e = .returned (.bool true) ∧ Below w.heap.size w w' := by
  have e1 : plyS k x q z = (streamS (decS k x) 0 z, 0) := by unfold plyS; rw [if_neg (by omega), if_pos heq]
  have e2 : rekS k a x q z = ⟨encS a (decS k x), q, z, 0⟩ := by unfold rekS; rw [if_pos heq]
  have e3 : strR (decS k x) 0 z = (streamS (decS k x) 0 z, 0) := by unfold strR; rw [if_neg (by omega)]
  have HD : Hid (∀ W, Calls Tryz.prog 46 #[.agg (cellsB k).toArray, .agg (cellsB x).toArray] W fun e w' => e = .returned (.agg (cellsB (decS k x)).toArray) ∧ Below W.heap.size W w') := fun W => Decrypt_any k x W hk hx
  have HDL : Hid ((decS k x).length = 16) := rfl
  have HC : Hid (∀ W, Calls Tryz.prog 49 #[.agg (cellsB (decS k x)).toArray, .int .u8 53, .int .u64 0] W fun e w' => e = .returned (.agg (cellsB (chkS (decS k x))).toArray) ∧ Below W.heap.size W w') := fun W => Derive_any (decS k x) 53 0 W rfl
  have HCH : Hid ((chkS (decS k x)).length = 16) := rfl
  have HRI : Hid ((Tryz.prog.info? 86).map (·.size) = some (recC x q D M cD).toArray.size) := by unfold Hid; rw [List.size_toArray, recC_length D M cD hx hq]; kernel_rfl
  have HNI : Hid (∀ NA nc, (Tryz.prog.info? 86).map (·.size) = some (recC (rekS k a x q z).x (rekS k a x q z).c NA (rekS k a x q z).d.length nc).toArray.size) := fun NA nc => by rw [List.size_toArray, recC_length NA _ nc (rekS_x k a x q z) (rekS_c k a x q z hq)]; kernel_rfl
  have HNX : Hid ((rekS k a x q z).x.length = 16) := rekS_x k a x q z
  have HNQ : Hid ((rekS k a x q z).c.length = 16) := rekS_c k a x q z hq
  have HP : Hid (∀ W, BR W D cD z → Calls Tryz.prog 47 #[.agg (cellsB k).toArray, .agg (recC x q D M cD).toArray] W fun e w' => (∃ BA bc, e = .returned (.tuple #[.slice BA (plyS k x q z).1.length bc, .int .i64 (plyS k x q z).2]) ∧ BR w' BA bc (plyS k x q z).1) ∧ Below W.heap.size W w') := fun W h => (Play_any k x q D cD z W hM h hk hx hq).mono fun e w' ⟨⟨A, c, he, ho⟩, hb⟩ => ⟨⟨A, c, he, ho.br (by have := plyS_l k x q z; have := h.len; omega)⟩, hb⟩
  have HR : Hid (∀ W, BR W D cD z → Calls Tryz.prog 48 #[.agg (cellsB k).toArray, .agg (cellsB a).toArray, .agg (recC x q D M cD).toArray] W fun e w' => (∃ NA nc, e = .returned (.tuple #[.agg (recC (rekS k a x q z).x (rekS k a x q z).c NA (rekS k a x q z).d.length nc).toArray, .int .i64 (rekS k a x q z).e])) ∧ Below W.heap.size W w') := fun W h => (Rekey_any k a x q D cD z W hM h hk ha hx hq).mono fun e w' ⟨⟨A, c, he, ho⟩, hb⟩ => ⟨⟨A, c, he⟩, hb⟩
  rw [e1] at HP
  rw [e2] at HNI HNX HNQ HR
  have HNE : Hid ((chkS (decS k x) == q) = true) := by unfold Hid; rw [heq]; exact beq_self_eq_true _
  have HST : Hid (∀ W, BR W D cD z → Calls Tryz.prog 50 #[.agg (cellsB (decS k x)).toArray, .int .u64 0, .slice D M cD] W fun e w' => (∃ BA bc, e = .returned (.tuple #[.slice BA (streamS (decS k x) 0 z).length bc, .int .i64 0]) ∧ BR w' BA bc (streamS (decS k x) 0 z)) ∧ Below W.heap.size W w') := fun W h => (Stream_any (decS k x) 0 D cD z W hM h rfl).mono fun e w' ⟨⟨A, c, he, ho⟩, hb⟩ => by
    rw [e3] at he ho
    exact ⟨⟨A, c, he, ho.br (by have := h.len; have := streamS_length (decS k x) 0 z; dsimp only; omega)⟩, hb⟩
  have HEN : Hid (∀ W, Calls Tryz.prog 51 #[.agg (cellsB a).toArray, .agg (cellsB (decS k x)).toArray] W fun e w' => e = .returned (.agg (cellsB (encS a (decS k x))).toArray) ∧ Below W.heap.size W w') := fun W => Encrypt_any a (decS k x) W ha rfl
  obtain ⟨L2, hL2⟩ : ∃ n, (streamS (decS k x) 0 z).length = n := ⟨_, rfl⟩
  have hl2 : (L2 : Int) ≤ 140737488351232 := by have := streamS_length (decS k x) 0 z; have := hz.len; omega
  dsimp only at HNI HNX HNQ HR HP
  rw [hM] at HNI HR
  rw [hL2] at HP HST
  have HL2 := Lib.hid hL2
  generalize chkS (decS k x) = ch at HC HCH HNE
  generalize streamS (decS k x) 0 z = sd at HP HST HL2
  generalize encS a (decS k x) = en at HEN HNI HNX HNQ HR
  generalize decS k x = d at HD HDL HC HST HEN
  generalize hstr : strB sd = s1
  have HS1 := Lib.hid hstr
  obtain ⟨W0, hW0⟩ : ∃ W, W = ((w.alloc (.cells (cellsB k).toArray 24)).alloc (.cells (cellsB a).toArray 24)).alloc (.cells (recC x q D M cD).toArray 86) := ⟨_, rfl⟩
  have D0 : Hid (Below w.heap.size w W0) := by unfold Hid; rw [hW0]; exact alloc3_bel w _ _ _
  have K0 : Hid (Blk W0 w.heap.size 24 (cellsB k).toArray) := by unfold Hid; rw [hW0]; exact blk_a0 w _ _ _ _
  have A0 : Hid (Blk W0 (w.heap.size + 1) 24 (cellsB a).toArray) := by unfold Hid; rw [hW0]; exact blk_a1 w _ _ _ _
  have R0 : Hid (Blk W0 (w.heap.size + 1 + 1) 86 (recC x q D M cD).toArray) := by unfold Hid; rw [hW0]; exact blk_a2 w _ _ _ _
  have hm0 : (M : Int) ≤ 140737488351232 := by have := hz.len; omega
  have HW0 := Lib.hid hW0
  have HK := Lib.hid hk
  have HAA := Lib.hid ha
  have HX := Lib.hid hx
  have HQ := Lib.hid hq
  have HM := Lib.hid hM
  have HBZ := Lib.hid hz
  have hsi : (M : Int) ≤ 16384 := by omega
  clear hW0 hk ha hx hq hM hz hsm heq e1 e2 e3 hL2 hstr
  go_enter Tryz.func12, Tryz.ntmps12
  go_wp2_with (first
    | (go_at_call 25; rw [← HW0.out]; (with_reducible refine (HA.out _ D0.out).mono ?_); rintro e w1 ⟨rfl, hb⟩; have D1 := Lib.hid (bel_on D0.out hb); have K1 := Lib.hid (K0.out.below' hb); have A1 := Lib.hid (A0.out.below' hb); have R1 := Lib.hid (R0.out.below' hb); have c1 := (recOf_box R1.out HX.out HQ.out).2.2; clear hb)
    | (refine wpList_load_row rfl 24 (.tmp 3) rfl w.heap.size rfl 24 (cellsB k).toArray (0, 0) _ K1.out under_key rfl (cellsB_size _ HK.out) ?_)
    | (refine wpList_load_mid rfl 24 (.tmp 22) rfl (w.heap.size + 1 + 1) 0 rfl (cellsB x) _ (recOf_box R1.out HX.out HQ.out).1 under_key rfl (key_info HX.out) ?_)
    | (go_at_call 46; (with_reducible refine (HD.out _).mono ?_); rintro e w2 ⟨rfl, hb⟩; have D2 := Lib.hid (bel_on D1.out hb); have K2 := Lib.hid (K1.out.below' hb); have A2 := Lib.hid (A1.out.below' hb); have R2 := Lib.hid (R1.out.below' hb); clear hb c1)
    | ((first | rw [zero16] | skip); refine wpList_store_row rfl 24 (.tmp 8) (.tmp 24) rfl w2.heap.size (cellsB d).toArray rfl rfl 24 (cellsB zeroK).toArray (Blk.new w2 _ _) (cellsB_size _ HDL.out) (cellsB_sizes _ _ zeroK_length HDL.out) (cellsB_all _) ?_; obtain ⟨W3, hV⟩ : ∃ W, W = (w2.alloc (.cells (cellsB zeroK).toArray 24)).setRow w2.heap.size (cellsB d).toArray := ⟨_, rfl⟩; rw [← hV]; obtain ⟨hb, nb⟩ := keybox4_ _ _ _ _ hV; have D3 := Lib.hid (bel_on D2.out hb); have K3 := Lib.hid (K2.out.below' hb); have A3 := Lib.hid (A2.out.below' hb); have R3 := Lib.hid (R2.out.below' hb); have C3 := Lib.hid nb; clear hV hb nb)
    | (refine wpList_load_row rfl 24 (.tmp 3) rfl w.heap.size rfl 24 (cellsB k).toArray (0, 0) _ K3.out under_key rfl (cellsB_size _ HK.out) ?_)
    | (refine wpList_load_row rfl 24 (.tmp 4) rfl (w.heap.size + 1) rfl 24 (cellsB a).toArray (0, 0) _ A3.out under_key rfl (cellsB_size _ HAA.out) ?_)
    | (refine wpList_load_row rfl 86 (.tmp 5) rfl (w.heap.size + 1 + 1) rfl 86 (recC x q D M cD).toArray (0, 0) _ R3.out Tryz.underlying86 rfl HRI.out ?_)
    | (go_at_call 47; (with_reducible refine (HP.out _ (HBZ.out.below D3.out)).mono ?_); rintro e w4 ⟨⟨BA, bc, rfl, ho⟩, hb⟩; have D4 := Lib.hid (bel_on D3.out hb); have K4 := Lib.hid (K3.out.below' hb); have A4 := Lib.hid (A3.out.below' hb); have R4 := Lib.hid (R3.out.below' hb); have C4 := Lib.hid (C3.out.below' hb); have B4 := Lib.hid ho; clear hb ho)
    | (refine wpList_load_row rfl 24 (.tmp 3) rfl w.heap.size rfl 24 (cellsB k).toArray (0, 0) _ K4.out under_key rfl (cellsB_size _ HK.out) ?_)
    | (refine wpList_load_row rfl 24 (.tmp 4) rfl (w.heap.size + 1) rfl 24 (cellsB a).toArray (0, 0) _ A4.out under_key rfl (cellsB_size _ HAA.out) ?_)
    | (refine wpList_load_row rfl 86 (.tmp 5) rfl (w.heap.size + 1 + 1) rfl 86 (recC x q D M cD).toArray (0, 0) _ R4.out Tryz.underlying86 rfl HRI.out ?_)
    | (go_at_call 48; (with_reducible refine (HR.out _ (HBZ.out.below D4.out)).mono ?_); rintro e w5 ⟨⟨NA, nc, rfl⟩, hb⟩; have D5 := Lib.hid (bel_on D4.out hb); have A5 := Lib.hid (A4.out.below' hb); have R5 := Lib.hid (R4.out.below' hb); have C5 := Lib.hid (C4.out.below' hb); have B5 := Lib.hid (B4.out.below hb); clear hb)
    | ((first | rw [zeroRec] | skip); refine wpList_store_row rfl 86 (.tmp 11) (.tmp 36) rfl w5.heap.size (recC en q NA M nc).toArray rfl rfl 86 (recC zeroK zeroK none 0 0).toArray (Blk.new w5 _ _) (HNI.out NA nc) (by rw [List.size_toArray, List.size_toArray, recC_length none 0 0 zeroK_length zeroK_length, recC_length NA M nc HNX.out HNQ.out]) (by simpa using recC_all en q NA M nc) ?_; obtain ⟨W6, hV⟩ : ∃ W, W = (w5.alloc (.cells (recC zeroK zeroK none 0 0).toArray 86)).setRow w5.heap.size (recC en q NA M nc).toArray := ⟨_, rfl⟩; rw [← hV]; obtain ⟨hb, nb⟩ := keybox4_ _ _ _ _ hV; have D6 := Lib.hid (bel_on D5.out hb); have A6 := Lib.hid (A5.out.below' hb); have R6 := Lib.hid (R5.out.below' hb); have C6 := Lib.hid (C5.out.below' hb); have B6 := Lib.hid (B5.out.below hb); have N6 := Lib.hid nb; clear hV hb nb))
  have HS : Hid (∀ W, Below W6.heap.size W6 W → W.rangeAt w2.heap.size 0 (cellsB d) ∧ W.rangeAt (w.heap.size + 1 + 1) 16 (cellsB q)) := fun W hW => ⟨(C6.out.below' hW).range, (recOf_box (R6.out.below' hW) HX.out HQ.out).2.1⟩
  have E0 : Below W6.heap.size W6 W6 := Below.refl _ _
  refine wp_region_noPanic ?_
  refine wp_region_held_drew (S := fun W => W.rangeAt w2.heap.size 0 (cellsB d) ∧ W.rangeAt (w.heap.size + 1 + 1) 16 (cellsB q)) (by kernel_rfl) (HS.out _ E0.drew) (fun hS => ?_)
  have E0 := E0.drew
  refine hd_load 0 (w2.heap.size) (0) (cellsB d) _ _ rfl rfl rfl (by kernel_rfl) (by kernel_rfl) (by kernel_rfl) (fun _ _ _ h => h) rfl (fun w hw => hw.1) under_key rfl (key_info HDL.out) hS ?_
  simp only [List.getElem_toArray, List.getElem_cons_succ, List.getElem_cons_zero, Act.put, List.setIfInBounds_toArray, List.set_cons_zero, List.set_cons_succ]
  refine hd_take 2 (_) rfl rfl (by kernel_rfl) (by kernel_rfl) (by kernel_rfl) (fun _ _ _ h => h) (fun w hw => by go_simp <;> rfl) hS ?_
  simp only [List.getElem_toArray, List.getElem_cons_succ, List.getElem_cons_zero, Act.put, List.setIfInBounds_toArray, List.set_cons_zero, List.set_cons_succ]
  refine hd_load 3 (w.heap.size + 1 + 1) (16) (cellsB q) _ _ rfl rfl rfl (by kernel_rfl) (by kernel_rfl) (by kernel_rfl) (fun _ _ _ h => h) rfl (fun w hw => hw.2) under_key rfl (key_info HQ.out) hS ?_
  simp only [List.getElem_toArray, List.getElem_cons_succ, List.getElem_cons_zero, Act.put, List.setIfInBounds_toArray, List.set_cons_zero, List.set_cons_succ]
  refine hd_calls 1 49 #[.agg (cellsB d).toArray, .int .u8 53, .int .u64 0] rfl rfl (by kernel_rfl) (by go_simp <;> rfl) ?_
  refine (HC.out _).mono ?_
  rintro e w7 ⟨rfl, hb⟩
  have E1_ := bel_on E0 hb
  have hS1_ := HS.out _ E1_
  clear hb
  refine ⟨_, rfl, hS1_, ?_⟩
  simp only [List.getElem_toArray, List.getElem_cons_succ, List.getElem_cons_zero, Act.put, List.setIfInBounds_toArray, List.set_cons_zero, List.set_cons_succ]
  refine hd_take 4 (.bool false) rfl rfl (by kernel_rfl) (by kernel_rfl) (by kernel_rfl) (fun _ _ _ h => h) (fun w hw => by have hx := equalIn_keys w ch q HCH HQ; simp [go_sem, hx, HNE.out]) hS1_ ?_
  simp only [List.getElem_toArray, List.getElem_cons_succ, List.getElem_cons_zero, Act.put, List.setIfInBounds_toArray, List.set_cons_zero, List.set_cons_succ]
  refine wpAnyH_done (by kernel_rfl) (NoPanic.normal ?_) _
  have D7 := Lib.hid (bel_on D6.out E1_)
  have A7 := Lib.hid (A6.out.below' E1_)
  have C7 := Lib.hid (C6.out.below' E1_)
  have B7 := Lib.hid (B6.out.below E1_)
  have N7 := Lib.hid (N6.out.below' E1_)
  have R7 := Lib.hid (R6.out.below' E1_)
  clear hS hS1_ HS E0 E1_
  have n7 := (recOf_box R7.out HX.out HQ.out).2.2
  go_wp2_with (first
    | (refine wpList_load_row rfl 24 (.tmp 8) rfl w2.heap.size rfl 24 (cellsB d).toArray (0, 0) _ C7.out under_key rfl (cellsB_size _ HDL.out) ?_)
    | (go_at_call 50; (with_reducible refine (HST.out _ (HBZ.out.below D7.out)).mono ?_); rintro e w8 ⟨⟨SA, sc, rfl, ho⟩, hb⟩; have D8 := Lib.hid (bel_on D7.out hb); have A8 := Lib.hid (A7.out.below' hb); have C8 := Lib.hid (C7.out.below' hb); have B8 := Lib.hid (B7.out.below hb); have N8 := Lib.hid (N7.out.below' hb); have S8 := Lib.hid ho; clear hb ho n7))
  have HS : Hid (∀ W, Below w8.heap.size w8 W → W.rangeAt w5.heap.size 0 (cellsB en) ∧ W.rangeAt (w.heap.size + 1) 0 (cellsB a) ∧ W.rangeAt w2.heap.size 0 (cellsB d) ∧ BR W BA bc sd ∧ BR W SA sc sd) := fun W hW => ⟨(recOf_box (N8.out.below' hW) HNX.out HQ.out).1, (A8.out.below' hW).range, (C8.out.below' hW).range, B8.out.below hW, S8.out.below hW⟩
  have E0 : Below w8.heap.size w8 w8 := Below.refl _ _
  refine wp_region_noPanic ?_
  refine wp_region_held_drew (S := fun W => W.rangeAt w5.heap.size 0 (cellsB en) ∧ W.rangeAt (w.heap.size + 1) 0 (cellsB a) ∧ W.rangeAt w2.heap.size 0 (cellsB d) ∧ BR W BA bc sd ∧ BR W SA sc sd) (by kernel_rfl) (HS.out _ E0.drew) (fun hS => ?_)
  have E0 := E0.drew
  refine hd_take 0 (_) rfl rfl (by kernel_rfl) (by kernel_rfl) (by kernel_rfl) (fun _ _ _ h => h) (fun w hw => by go_simp <;> rfl) hS ?_
  simp only [List.getElem_toArray, List.getElem_cons_succ, List.getElem_cons_zero, Act.put, List.setIfInBounds_toArray, List.set_cons_zero, List.set_cons_succ]
  refine hd_take 1 (_) rfl rfl (by kernel_rfl) (by kernel_rfl) (by kernel_rfl) (fun _ _ _ h => h) (fun w hw => by go_simp <;> rfl) hS ?_
  simp only [List.getElem_toArray, List.getElem_cons_succ, List.getElem_cons_zero, Act.put, List.setIfInBounds_toArray, List.set_cons_zero, List.set_cons_succ]
  refine hg_take 2 (_) rfl (by rfl) (by kernel_rfl) (by kernel_rfl) (by kernel_rfl) (fun _ _ _ h => h) (fun w hw => by go_simp <;> rfl) hS ?_
  simp only [List.getElem_toArray, List.getElem_cons_succ, List.getElem_cons_zero, Act.put, List.setIfInBounds_toArray, List.set_cons_zero, List.set_cons_succ]
  refine hg_take 3 (_) rfl (by rfl) (by kernel_rfl) (by kernel_rfl) (by kernel_rfl) (fun _ _ _ h => h) (fun w hw => by go_simp <;> rfl) hS ?_
  simp only [List.getElem_toArray, List.getElem_cons_succ, List.getElem_cons_zero, Act.put, List.setIfInBounds_toArray, List.set_cons_zero, List.set_cons_succ]
  refine hd_take 4 (_) rfl rfl (by kernel_rfl) (by kernel_rfl) (by kernel_rfl) (fun _ _ _ h => h) (fun w hw => by go_simp <;> rfl) hS ?_
  simp only [List.getElem_toArray, List.getElem_cons_succ, List.getElem_cons_zero, Act.put, List.setIfInBounds_toArray, List.set_cons_zero, List.set_cons_succ]
  refine hd_take 5 (_) rfl rfl (by kernel_rfl) (by kernel_rfl) (by kernel_rfl) (fun _ _ _ h => h) (fun w hw => by go_simp <;> rfl) hS ?_
  simp only [List.getElem_toArray, List.getElem_cons_succ, List.getElem_cons_zero, Act.put, List.setIfInBounds_toArray, List.set_cons_zero, List.set_cons_succ]
  refine hg_take 6 (_) rfl (by rfl) (by kernel_rfl) (by kernel_rfl) (by kernel_rfl) (fun _ _ _ h => h) (fun w hw => by go_simp <;> rfl) hS ?_
  simp only [List.getElem_toArray, List.getElem_cons_succ, List.getElem_cons_zero, Act.put, List.setIfInBounds_toArray, List.set_cons_zero, List.set_cons_succ]
  refine hg_take 7 (_) rfl (by rfl) (by kernel_rfl) (by kernel_rfl) (by kernel_rfl) (fun _ _ _ h => h) (fun w hw => by go_simp <;> rfl) hS ?_
  simp only [List.getElem_toArray, List.getElem_cons_succ, List.getElem_cons_zero, Act.put, List.setIfInBounds_toArray, List.set_cons_zero, List.set_cons_succ]
  refine hd_take 8 (_) rfl rfl (by kernel_rfl) (by kernel_rfl) (by kernel_rfl) (fun _ _ _ h => h) (fun w hw => by go_simp <;> rfl) hS ?_
  simp only [List.getElem_toArray, List.getElem_cons_succ, List.getElem_cons_zero, Act.put, List.setIfInBounds_toArray, List.set_cons_zero, List.set_cons_succ]
  refine hd_take 9 (_) rfl rfl (by kernel_rfl) (by kernel_rfl) (by kernel_rfl) (fun _ _ _ h => h) (fun w hw => by go_simp <;> rfl) hS ?_
  simp only [List.getElem_toArray, List.getElem_cons_succ, List.getElem_cons_zero, Act.put, List.setIfInBounds_toArray, List.set_cons_zero, List.set_cons_succ]
  refine hg_take 10 (_) rfl (by rfl) (by kernel_rfl) (by kernel_rfl) (by kernel_rfl) (fun _ _ _ h => h) (fun w hw => by go_simp <;> rfl) hS ?_
  simp only [List.getElem_toArray, List.getElem_cons_succ, List.getElem_cons_zero, Act.put, List.setIfInBounds_toArray, List.set_cons_zero, List.set_cons_succ]
  refine hg_take 11 (.string s1) rfl (by rfl) (by kernel_rfl) (by kernel_rfl) (by kernel_rfl) (fun _ _ _ h => h) (fun w hw => by have hx := run_string_br hw.2.2.2.1 _ HL2.out; rw [HS1.out] at hx; simp [execOp, Act.eval, Act.put, Sem.run_bind, hx]) hS ?_
  simp only [List.getElem_toArray, List.getElem_cons_succ, List.getElem_cons_zero, Act.put, List.setIfInBounds_toArray, List.set_cons_zero, List.set_cons_succ]
  refine hg_take 12 (_) rfl (by rfl) (by kernel_rfl) (by kernel_rfl) (by kernel_rfl) (fun _ _ _ h => h) (fun w hw => by go_simp <;> rfl) hS ?_
  simp only [List.getElem_toArray, List.getElem_cons_succ, List.getElem_cons_zero, Act.put, List.setIfInBounds_toArray, List.set_cons_zero, List.set_cons_succ]
  refine hg_take 13 (.string s1) rfl (by rfl) (by kernel_rfl) (by kernel_rfl) (by kernel_rfl) (fun _ _ _ h => h) (fun w hw => by have hx := run_string_br hw.2.2.2.2 _ HL2.out; rw [HS1.out] at hx; simp [execOp, Act.eval, Act.put, Sem.run_bind, hx]) hS ?_
  simp only [List.getElem_toArray, List.getElem_cons_succ, List.getElem_cons_zero, Act.put, List.setIfInBounds_toArray, List.set_cons_zero, List.set_cons_succ]
  refine hg_take 14 (.bool true) rfl (by rfl) (by kernel_rfl) (by kernel_rfl) (by kernel_rfl) (fun _ _ _ h => h) (fun w hw => by simp [go_sem]) hS ?_
  simp only [List.getElem_toArray, List.getElem_cons_succ, List.getElem_cons_zero, Act.put, List.setIfInBounds_toArray, List.set_cons_zero, List.set_cons_succ]
  refine hd_take 15 (_) rfl rfl (by kernel_rfl) (by kernel_rfl) (by kernel_rfl) (fun _ _ _ h => h) (fun w hw => by go_simp <;> rfl) hS ?_
  simp only [List.getElem_toArray, List.getElem_cons_succ, List.getElem_cons_zero, Act.put, List.setIfInBounds_toArray, List.set_cons_zero, List.set_cons_succ]
  refine hd_take 16 (_) rfl rfl (by kernel_rfl) (by kernel_rfl) (by kernel_rfl) (fun _ _ _ h => h) (fun w hw => by go_simp <;> rfl) hS ?_
  simp only [List.getElem_toArray, List.getElem_cons_succ, List.getElem_cons_zero, Act.put, List.setIfInBounds_toArray, List.set_cons_zero, List.set_cons_succ]
  refine hg_take 17 (_) rfl (by rfl) (by kernel_rfl) (by kernel_rfl) (by kernel_rfl) (fun _ _ _ h => h) (fun w hw => by go_simp <;> rfl) hS ?_
  simp only [List.getElem_toArray, List.getElem_cons_succ, List.getElem_cons_zero, Act.put, List.setIfInBounds_toArray, List.set_cons_zero, List.set_cons_succ]
  refine hg_take 18 (_) rfl (by rfl) (by kernel_rfl) (by kernel_rfl) (by kernel_rfl) (fun _ _ _ h => h) (fun w hw => by go_simp <;> rfl) hS ?_
  simp only [List.getElem_toArray, List.getElem_cons_succ, List.getElem_cons_zero, Act.put, List.setIfInBounds_toArray, List.set_cons_zero, List.set_cons_succ]
  refine hd_take 19 (_) rfl rfl (by kernel_rfl) (by kernel_rfl) (by kernel_rfl) (fun _ _ _ h => h) (fun w hw => by go_simp <;> rfl) hS ?_
  simp only [List.getElem_toArray, List.getElem_cons_succ, List.getElem_cons_zero, Act.put, List.setIfInBounds_toArray, List.set_cons_zero, List.set_cons_succ]
  refine hd_take 20 (_) rfl rfl (by kernel_rfl) (by kernel_rfl) (by kernel_rfl) (fun _ _ _ h => h) (fun w hw => by go_simp <;> rfl) hS ?_
  simp only [List.getElem_toArray, List.getElem_cons_succ, List.getElem_cons_zero, Act.put, List.setIfInBounds_toArray, List.set_cons_zero, List.set_cons_succ]
  refine hg_take 21 (_) rfl (by rfl) (by kernel_rfl) (by kernel_rfl) (by kernel_rfl) (fun _ _ _ h => h) (fun w hw => by go_simp <;> rfl) hS ?_
  simp only [List.getElem_toArray, List.getElem_cons_succ, List.getElem_cons_zero, Act.put, List.setIfInBounds_toArray, List.set_cons_zero, List.set_cons_succ]
  refine hg_load 22 (w5.heap.size) (0) (cellsB en) _ _ rfl rfl (by rfl) (by kernel_rfl) (by kernel_rfl) (by kernel_rfl) (fun _ _ _ h => h) rfl (fun w hw => hw.1) under_key rfl (key_info HNX.out) hS ?_
  simp only [List.getElem_toArray, List.getElem_cons_succ, List.getElem_cons_zero, Act.put, List.setIfInBounds_toArray, List.set_cons_zero, List.set_cons_succ]
  refine hg_load 23 (w.heap.size + 1) (0) (cellsB a) _ _ rfl rfl (by rfl) (by kernel_rfl) (by kernel_rfl) (by kernel_rfl) (fun _ _ _ h => h) rfl (fun w hw => hw.2.1) under_key rfl (key_info HAA.out) hS ?_
  simp only [List.getElem_toArray, List.getElem_cons_succ, List.getElem_cons_zero, Act.put, List.setIfInBounds_toArray, List.set_cons_zero, List.set_cons_succ]
  refine hg_load 24 (w2.heap.size) (0) (cellsB d) _ _ rfl rfl (by rfl) (by kernel_rfl) (by kernel_rfl) (by kernel_rfl) (fun _ _ _ h => h) rfl (fun w hw => hw.2.2.1) under_key rfl (key_info HDL.out) hS ?_
  simp only [List.getElem_toArray, List.getElem_cons_succ, List.getElem_cons_zero, Act.put, List.setIfInBounds_toArray, List.set_cons_zero, List.set_cons_succ]
  refine hg_calls 25 51 #[.agg (cellsB a).toArray, .agg (cellsB d).toArray] rfl (by rfl) (by kernel_rfl) (by go_simp <;> rfl) ?_
  refine (HEN.out _).mono ?_
  rintro e w9 ⟨rfl, hb⟩
  have E1_ := bel_on E0 hb
  have hS1_ := HS.out _ E1_
  clear hb
  refine ⟨_, rfl, hS1_, ?_⟩
  simp only [List.getElem_toArray, List.getElem_cons_succ, List.getElem_cons_zero, Act.put, List.setIfInBounds_toArray, List.set_cons_zero, List.set_cons_succ]
  refine hg_take 26 (.bool true) rfl (by rfl) (by kernel_rfl) (by kernel_rfl) (by kernel_rfl) (fun _ _ _ h => h) (fun w hw => by have hx := equalIn_keys w en en HNX HNX; simp [go_sem, hx]) hS1_ ?_
  simp only [List.getElem_toArray, List.getElem_cons_succ, List.getElem_cons_zero, Act.put, List.setIfInBounds_toArray, List.set_cons_zero, List.set_cons_succ]
  refine hd_take 27 (_) rfl rfl (by kernel_rfl) (by kernel_rfl) (by kernel_rfl) (fun _ _ _ h => h) (fun w hw => by go_simp <;> rfl) hS1_ ?_
  simp only [List.getElem_toArray, List.getElem_cons_succ, List.getElem_cons_zero, Act.put, List.setIfInBounds_toArray, List.set_cons_zero, List.set_cons_succ]
  refine hd_take 28 (_) rfl rfl (by kernel_rfl) (by kernel_rfl) (by kernel_rfl) (fun _ _ _ h => h) (fun w hw => by go_simp <;> rfl) hS1_ ?_
  simp only [List.getElem_toArray, List.getElem_cons_succ, List.getElem_cons_zero, Act.put, List.setIfInBounds_toArray, List.set_cons_zero, List.set_cons_succ]
  refine wpAnyH_done (by kernel_rfl) (NoPanic.normal ?_) _
  have D9 := Lib.hid (bel_on D8.out E1_)
  clear hS hS1_ HS E0 E1_
  go_wp2_with fail
  go_ret
  exact ⟨rfl, D9.out⟩
theorem auditOtherKey_walk (k a x q : List UInt8) (D : Option Addr) (cD : Nat) (z : List UInt8) (w : World) (hk : k.length = 16) (ha : a.length = 16) (hx : x.length = 16) (hq : q.length = 16) (hz : BR w D cD z) (hT : TestsIn w) :
    Calls Tryz.prog 12 #[.agg (cellsB k).toArray, .agg (cellsB a).toArray, .agg (recC x q D z.length cD).toArray] w fun e w' => e = .returned (.bool true) ∧ Below w.heap.size w w' := by
  have HA : Hid (∀ W, Below w.heap.size w W → Calls Tryz.prog 25 #[] W fun e w' => e = .returned (.bool true) ∧ Below W.heap.size W w') := fun W hW => alive_any W (range_below hT hW)
  by_cases hbig : 16384 < z.length
  · exact otherKey_big k a x q D cD z w hk ha hx hq rfl hz HA hbig
  · by_cases hch : chkS (decS k x) = q
    · exact otherKey_good k a x q D cD z w hk ha hx hq rfl hz HA (by omega) hch
    · exact otherKey_bad k a x q D cD z w hk ha hx hq rfl hz HA (by omega) hch
end Go.Proofs.YtinpiodfpnbllaaGreatDoor
