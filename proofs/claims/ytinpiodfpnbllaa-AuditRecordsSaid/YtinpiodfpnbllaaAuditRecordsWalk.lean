/-
  The law AuditRecords: the walk.
-/
import Derived.Test.YtinpiodfpnbllaaLawKit
import Derived.Test.YtinpiodfpnbllaaRecSame
namespace Go.Proofs.Ytinpiodfpnbllaa
open Go.RowKit
set_option linter.unusedVariables false
attribute [local go_sem] run_storeCells_new33 run_storeCells_rec

set_option maxHeartbeats 4000000 in
set_option maxRecDepth 100000 in
theorem auditRecords_walk (k y : List UInt8) (A : Option Addr) (cA : Nat) (b : List UInt8) (a x q : List UInt8) (D : Option Addr) (cD : Nat) (z : List UInt8) (w : World) (hk : k.length = 16) (hy : y.length = 16) (hb : BR w A cA b) (ha : a.length = 16) (hx : x.length = 16) (hq : q.length = 16) (hz : BR w D cD z) :
    Calls Try.prog 3 #[.agg (cellsB k).toArray, .agg (cellsB y).toArray, .slice A b.length cA, .agg (cellsB a).toArray, .agg (recC x q D z.length cD).toArray] w fun e w' => e = .returned (.bool true) ∧ Below w.heap.size w w' := by
  obtain ⟨L, hL⟩ : ∃ n, b.length = n := ⟨_, rfl⟩
  obtain ⟨M, hM⟩ : ∃ n, z.length = n := ⟨_, rfl⟩
  have hl0 : (L : Int) ≤ 140737488351232 := by have := hb.len; omega
  have hm0 : (M : Int) ≤ 140737488351232 := by have := hz.len; omega
  rw [hL, hM]
  have HL := Lib.hid hL
  have HM := Lib.hid hM
  have HBb := Lib.hid hb
  have HBz := Lib.hid hz
  have HK := Lib.hid hk
  have HY := Lib.hid hy
  have HA := Lib.hid ha
  have HX := Lib.hid hx
  have HQ := Lib.hid hq
  have b0 := alloc4_bel w (.cells (cellsB k).toArray 23) (.cells (cellsB y).toArray 23) (.cells (cellsB a).toArray 23) (.cells (recC x q D M cD).toArray 26)
  have K0 := Lib.hid (blk_d0 w (cellsB k).toArray 23 (.cells (cellsB y).toArray 23) (.cells (cellsB a).toArray 23) (.cells (recC x q D M cD).toArray 26))
  have Y0 := Lib.hid (blk_d1 w (.cells (cellsB k).toArray 23) (cellsB y).toArray 23 (.cells (cellsB a).toArray 23) (.cells (recC x q D M cD).toArray 26))
  have A0 := Lib.hid (blk_d2 w (.cells (cellsB k).toArray 23) (.cells (cellsB y).toArray 23) (cellsB a).toArray 23 (.cells (recC x q D M cD).toArray 26))
  have R0 := Lib.hid (blk_d3 w (.cells (cellsB k).toArray 23) (.cells (cellsB y).toArray 23) (.cells (cellsB a).toArray 23) (recC x q D M cD).toArray 26)
  have HLIT : Hid (OB (w.heap.size + 1 + 1 + 1 + 1) (((((w.alloc (.cells (cellsB k).toArray 23)).alloc (.cells (cellsB y).toArray 23)).alloc (.cells (cellsB a).toArray 23)).alloc (.cells (recC x q D M cD).toArray 26)).alloc (.cells #[] 5)) (some ⟨w.heap.size + 1 + 1 + 1 + 1, 0, none⟩) 0 []) := by
    have h := OB.lit0 (w.heap.size + 1 + 1 + 1 + 1) _ (Nat.le_of_eq (size_alloc4 w (.cells (cellsB k).toArray 23) (.cells (cellsB y).toArray 23) (.cells (cellsB a).toArray 23) (.cells (recC x q D M cD).toArray 26)).symm)
    rw [size_alloc4] at h
    exact h
  have hrx := recS_x k y b
  have hrc := recS_c k y b
  have hrd := recS_d k y b
  have H1 : Hid (∀ W A c, BR W A c b → Calls Try.prog 8 #[.agg (cellsB k).toArray, .agg (cellsB y).toArray, .slice A L c] W fun e w' => RecErr W.heap.size (recS k y b) e w' ∧ Below W.heap.size W w') := fun W A c h => Record_any k y A c b W hL h hk hy
  have H2 : Hid (∀ W A c, BR W A c b → Calls Try.prog 9 #[.agg (cellsB k).toArray, .agg (cellsB y).toArray, .slice A L c] W fun e w' => RecErr W.heap.size (recS k y b) e w' ∧ Below W.heap.size W w') := fun W A c h => refRecord_any k y A c b W hL h hk hy
  have hsx := rekS_x k a x q z
  have hsc := rekS_c k a x q z hq
  have hsd := rekS_d k a x q z
  have H3 : Hid (∀ W A c, BR W A c z → Calls Try.prog 11 #[.agg (cellsB k).toArray, .agg (cellsB a).toArray, .agg (recC x q A M c).toArray] W fun e w' => RecErr W.heap.size (rekS k a x q z) e w' ∧ Below W.heap.size W w') := fun W A c h => Rekey_any k a x q A c z W hM h hk ha hx hq
  have H4 : Hid (∀ W A c, BR W A c z → Calls Try.prog 12 #[.agg (cellsB k).toArray, .agg (cellsB a).toArray, .agg (recC x q A M c).toArray] W fun e w' => RecErr W.heap.size (rekS k a x q z) e w' ∧ Below W.heap.size W w') := fun W A c h => refRekey_any k a x q A c z W hM h hk ha hx hq
  have hpl := plyS_l k x q z
  have H5 : Hid (∀ W A c, BR W A c z → Calls Try.prog 13 #[.agg (cellsB k).toArray, .agg (recC x q A M c).toArray] W fun e w' => BytesErr W.heap.size (plyS k x q z) e w' ∧ Below W.heap.size W w') := fun W A c h => Play_any k x q A c z W hM h hk hx hq
  have H6 : Hid (∀ W A c, BR W A c z → Calls Try.prog 14 #[.agg (cellsB k).toArray, .agg (recC x q A M c).toArray] W fun e w' => BytesErr W.heap.size (plyS k x q z) e w' ∧ Below W.heap.size W w') := fun W A c h => refPlay_any k x q A c z W hM h hk hx hq
  generalize recS k y b = r at hrx hrc hrd H1 H2
  generalize rekS k a x q z = s at hsx hsc hsd H3 H4
  generalize plyS k x q z = p at hpl H5 H6
  obtain ⟨nr, hnr⟩ : ∃ n, r.d.length = n := ⟨_, rfl⟩
  obtain ⟨ns, hns⟩ : ∃ n, s.d.length = n := ⟨_, rfl⟩
  obtain ⟨np, hnp⟩ : ∃ n, p.1.length = n := ⟨_, rfl⟩
  have hnr2 : (nr : Int) ≤ 140737488351232 := by omega
  have hns2 : (ns : Int) ≤ 140737488351232 := by omega
  have hnp2 : (np : Int) ≤ 140737488351232 := by omega
  unfold RecErr BytesErr at *
  simp only [hnr] at H1 H2
  simp only [hns] at H3 H4
  simp only [hnp] at H5 H6
  have HNR := Lib.hid hnr
  have HNS := Lib.hid hns
  have HNP := Lib.hid hnp
  have HRX := Lib.hid hrx
  have HRC := Lib.hid hrc
  have HSX := Lib.hid hsx
  have HSC := Lib.hid hsc
  have hl1 := fun (A : Option Addr) (n cap : Nat) => recC_length (x := r.x) (c := r.c) A n cap hrx hrc
  have hl2 := fun (A : Option Addr) (n cap : Nat) => recC_length (x := s.x) (c := s.c) A n cap hsx hsc
  have hl3 := fun (A : Option Addr) (n cap : Nat) => recC_length (x := x) (c := q) A n cap hx hq
  have hll1 := fun (A : Option Addr) (n cap : Nat) => recC_all r.x r.c A n cap
  have hll2 := fun (A : Option Addr) (n cap : Nat) => recC_all s.x s.c A n cap
  have hll3 := fun (A : Option Addr) (n cap : Nat) => recC_all x q A n cap
  clear hL hM hb hz hk hy ha hx hq hrx hrc hrd hsx hsc hsd hpl hnr hns hnp
  go_enter Try.func3, Try.ntmps3
  go_wp2_with (first
    | (at_builtin; refine wpList_append_bytes _ rfl (.tmp 20) (.tmp 21) rfl (w.heap.size + 1 + 1 + 1 + 1) (some ⟨_, 0, none⟩) 0 0 [] rfl rfl HLIT.out A L cA b HL.out rfl ((HBb.out.below (b0.alloc b0.size _)).src HL.out) (by omega) (Nat.le_trans (Nat.le_of_eq (size_alloc4 w _ _ _ _).symm) (alloc_bel _ _).size) ?_; intro A1 c1 w1 hon1 hbl1 hg1; (try simp only [Nat.zero_add]); (try simp only [List.nil_append] at hon1); have K1 := Lib.hid ((K0.out.alloc (.cells #[] 5)).below hbl1 (by omega)); have Y1 := Lib.hid ((Y0.out.alloc (.cells #[] 5)).below hbl1 (by omega)); have A1' := Lib.hid ((A0.out.alloc (.cells #[] 5)).below hbl1 (by omega)); have R1 := Lib.hid ((R0.out.alloc (.cells #[] 5)).below hbl1 (by omega)); have b1 : Below w.heap.size w w1 := (b0.alloc b0.size _).trans (hbl1.mono (by omega)); have HON1 := Lib.hid hon1; clear hon1 hbl1 hg1)
    | (refine wpList_load_row rfl 23 (.tmp 5) rfl w.heap.size rfl 23 (cellsB k).toArray (0, 0) _ K1.out under_key rfl (cellsB_size _ HK.out) ?_)
    | (refine wpList_load_row rfl 23 (.tmp 6) rfl (w.heap.size + 1) rfl 23 (cellsB y).toArray (0, 0) _ Y1.out under_key rfl (cellsB_size _ HY.out) ?_))
  clear K0 Y0 A0 R0 b0
  have OW1 : Hid (BR w1 A1 c1 b) := HON1.out.br (by rw [HL.out]; omega)
  refine (H1.out _ _ _ OW1.out).mono ?_
  rintro e w2 ⟨⟨A2, c2, rfl, ho2⟩, hb2⟩
  obtain ⟨W2, hW2⟩ : ∃ W : World, W = w2.alloc (.cells (recC r.x r.c A2 nr c2).toArray 26) := ⟨_, rfl⟩
  have n12 : w1.heap.size ≤ w2.heap.size := hb2.size
  have n22 : w2.heap.size < W2.heap.size := by rw [hW2]; simp
  have bb2 : Below w1.heap.size w1 W2 := by rw [hW2]; exact hb2.alloc hb2.size _
  have T2 : Hid (Blk W2 w2.heap.size 26 (recC r.x r.c A2 nr c2).toArray) := by rw [hW2]; exact Blk.new _ _ _
  have P2 : Hid (BR W2 A2 c2 r.d) := by rw [hW2]; exact (ho2.below (alloc_bel _ _)).br (by rw [HNR.out]; omega)
  clear ho2
  go_wp2_with (first
    | (rw [← hW2]; clear hW2; refine wpList_load_row rfl 23 (.tmp 5) rfl (w.heap.size) rfl 23 (cellsB k).toArray (0, 0) _ (K1.out.below' bb2) under_key rfl (cellsB_size _ HK.out) ?_)
    | (refine wpList_load_row rfl 23 (.tmp 6) rfl (w.heap.size + 1) rfl 23 (cellsB y).toArray (0, 0) _ (Y1.out.below' bb2) under_key rfl (cellsB_size _ HY.out) ?_))
  refine (H2.out _ _ _ (HBb.out.below (b1.trans (bb2.mono b1.size)))).mono ?_
  rintro e w3 ⟨⟨A3, c3, rfl, ho3⟩, hb3⟩
  obtain ⟨W3, hW3⟩ : ∃ W : World, W = w3.alloc (.cells (recC r.x r.c A3 nr c3).toArray 26) := ⟨_, rfl⟩
  have n23 : w2.heap.size < w3.heap.size := Nat.lt_of_lt_of_le n22 hb3.size
  have n33 : w3.heap.size < W3.heap.size := by rw [hW3]; simp
  have bb3 : Below w1.heap.size w1 W3 := by rw [hW3]; exact bel_on bb2 (hb3.alloc hb3.size _)
  have T3a : Hid (Blk W3 w2.heap.size 26 (recC r.x r.c A2 nr c2).toArray) := by rw [hW3]; exact (T2.out.below' hb3).alloc _
  have T3b : Hid (Blk W3 w3.heap.size 26 (recC r.x r.c A3 nr c3).toArray) := by rw [hW3]; exact Blk.new _ _ _
  have P3a : Hid (BR W3 A2 c2 r.d) := by rw [hW3]; exact P2.out.below (hb3.alloc hb3.size _)
  have P3b : Hid (BR W3 A3 c3 r.d) := by rw [hW3]; exact (ho3.below (alloc_bel _ _)).br (by rw [HNR.out]; omega)
  clear ho3
  go_wp2_with (first
    | (rw [← hW3]; clear hW3; refine wpList_load_row rfl 26 (.tmp 12) rfl (w2.heap.size) rfl 26 (recC r.x r.c A2 nr c2).toArray (0, 0) _ (T3a.out) Try.underlying26 rfl (rec_info _ _ _ HRX.out HRC.out) ?_)
    | (refine wpList_load_row rfl 26 (.tmp 14) rfl (w3.heap.size) rfl 26 (recC r.x r.c A3 nr c3).toArray (0, 0) _ (T3b.out) Try.underlying26 rfl (rec_info _ _ _ HRX.out HRC.out) ?_))
  refine (same_any r.x r.c r.d A2 c2 A3 c3 _ HNR.out HRX.out HRC.out P3a.out P3b.out).mono ?_
  rintro e w4 ⟨rfl, hb4⟩
  have n34 : w3.heap.size < w4.heap.size := Nat.lt_of_lt_of_le n33 hb4.size
  have bb4 : Below w1.heap.size w1 w4 := bel_on bb3 hb4
  have T4a := Lib.hid (T3a.out.below' hb4)
  have T4b := Lib.hid (T3b.out.below' hb4)
  have R4 := Lib.hid (R1.out.below' bb4)
  have hc5 := rec_data ((R4.out.alloc (.cells (recC x q D M cD).toArray 26)).alloc (.cells #[] 5)) HX.out HQ.out
  have HLIT5 : Hid (OB (w4.heap.size + 1) ((w4.alloc (.cells (recC x q D M cD).toArray 26)).alloc (.cells #[] 5)) (some ⟨w4.heap.size + 1, 0, none⟩) 0 []) := by
    have h := OB.lit0 (w4.heap.size + 1) (w4.alloc (.cells (recC x q D M cD).toArray 26)) (by simp)
    rw [World.size_alloc] at h
    exact h
  have HZ5 := Lib.hid ((HBz.out.below (b1.trans (bb4.mono b1.size))).below (alloc2_bel w4 (.cells (recC x q D M cD).toArray 26) (.cells #[] 5)))
  have bb5 := bel_on bb4 (alloc2_bel w4 (.cells (recC x q D M cD).toArray 26) (.cells #[] 5))
  have T5t := Lib.hid (blk_b0 w4 (recC x q D M cD).toArray 26 (.cells #[] 5))
  have T5a := Lib.hid ((T4a.out.alloc (.cells (recC x q D M cD).toArray 26)).alloc (.cells #[] 5))
  have T5b := Lib.hid ((T4b.out.alloc (.cells (recC x q D M cD).toArray 26)).alloc (.cells #[] 5))
  go_wp2_with (first
    | (refine wpList_load_row rfl 26 (.tmp 9) rfl (w.heap.size + 1 + 1 + 1) rfl 26 (recC x q D M cD).toArray (0, 0) _ (R4.out) Try.underlying26 rfl (rec_info _ _ _ HX.out HQ.out) ?_)
    | (at_builtin; refine wpList_append_bytes _ rfl (.tmp 47) (.tmp 49) rfl (w4.heap.size + 1) (some ⟨_, 0, none⟩) 0 0 [] rfl rfl HLIT5.out D M cD z HM.out rfl (HZ5.out.src HM.out) (by omega) (by simp) ?_; intro A6 c6 w6 hon6 hbl6 hg6; (try simp only [Nat.zero_add]); (try simp only [List.nil_append] at hon6); have T6t := T5t.out.below hbl6 (by omega); have hc6 := rec_data T6t HX.out HQ.out; have hf6 := T6t.frozen 32; obtain ⟨W6, hW6⟩ : ∃ W : World, W = w6.setCell ⟨w4.heap.size, 32, none⟩ (.slice A6 M c6) := ⟨_, rfl⟩; have U6t : Hid (Blk W6 w4.heap.size 26 (recC x q A6 M c6).toArray) := (by rw [hW6]; have hs := T6t.set_ 32 (.slice A6 M c6); rw [recC_set D M cD _ HX.out HQ.out] at hs; exact hs); have U6a : Hid (Blk W6 w2.heap.size 26 (recC r.x r.c A2 nr c2).toArray) := (by rw [hW6]; exact (T5a.out.below hbl6 (by omega)).far (p := ⟨w4.heap.size, 32, none⟩) (by simp; omega) _); have U6b : Hid (Blk W6 w3.heap.size 26 (recC r.x r.c A3 nr c3).toArray) := (by rw [hW6]; exact (T5b.out.below hbl6 (by omega)).far (p := ⟨w4.heap.size, 32, none⟩) (by simp; omega) _); have O6t : Hid (OB (w4.heap.size + 1) W6 A6 c6 z) := (by rw [hW6]; exact hon6.lowc (p := ⟨w4.heap.size, 32, none⟩) (by simp) _); have bb6 : Below w1.heap.size w1 W6 := (by rw [hW6]; exact (bb5.trans (hbl6.mono (by omega))).setCell (p := ⟨w4.heap.size, 32, none⟩) (by simp; omega) _); clear T6t hon6 hbl6 hg6)
    | (rw [← hW6]; clear hW6; refine wpList_load_row rfl 23 (.tmp 5) rfl (w.heap.size) rfl 23 (cellsB k).toArray (0, 0) _ (K1.out.below' bb6) under_key rfl (cellsB_size _ HK.out) ?_)
    | (refine wpList_load_row rfl 23 (.tmp 8) rfl (w.heap.size + 1 + 1) rfl 23 (cellsB a).toArray (0, 0) _ (A1'.out.below' bb6) under_key rfl (cellsB_size _ HA.out) ?_)
    | (refine wpList_load_row rfl 26 (.tmp 16) rfl (w4.heap.size) rfl 26 (recC x q A6 M c6).toArray (0, 0) _ (U6t.out) Try.underlying26 rfl (rec_info _ _ _ HX.out HQ.out) ?_))
  have n46 : w4.heap.size < W6.heap.size := U6t.out.lt
  refine (H3.out _ _ _ (O6t.out.br (by rw [HM.out]; omega))).mono ?_
  rintro e w7 ⟨⟨A7, c7, rfl, ho7⟩, hb7⟩
  have S7a := U6a.out.below' hb7
  have hr7 : (rowAt w7 w2.heap.size).size = 33 := by rw [S7a.row, List.size_toArray, hl1]
  have hf7 := S7a.free
  obtain ⟨W7, hW7⟩ : ∃ W : World, W = w7.setRow w2.heap.size (recC s.x s.c A7 ns c7).toArray := ⟨_, rfl⟩
  have n67 : W6.heap.size ≤ W7.heap.size := by rw [hW7]; simpa using hb7.size
  have T7a : Hid (Blk W7 w2.heap.size 26 (recC s.x s.c A7 ns c7).toArray) := by rw [hW7]; exact S7a.setRow _
  have T7b : Hid (Blk W7 w3.heap.size 26 (recC r.x r.c A3 nr c3).toArray) := by rw [hW7]; exact (setRow_other _ _ _ _ (by omega)).trans (U6b.out.below' hb7)
  have T7t : Hid (Blk W7 w4.heap.size 26 (recC x q A6 M c6).toArray) := by rw [hW7]; exact (setRow_other _ _ _ _ (by omega)).trans (U6t.out.below' hb7)
  have O7t : Hid (OB (w4.heap.size + 1) W7 A6 c6 z) := by rw [hW7]; exact (O6t.out.below hb7).low (by omega) _
  have O7 : Hid (OB W6.heap.size W7 A7 c7 s.d) := by rw [hW7]; exact ho7.low (by omega) _
  have bb7 : Below w1.heap.size w1 W7 := by rw [hW7]; exact below_setRow (bel_on bb6 hb7) n12 _
  clear ho7 S7a
  go_wp2_with (first
    | (rw [← hW7]; clear hW7; refine wpList_load_row rfl 23 (.tmp 5) rfl (w.heap.size) rfl 23 (cellsB k).toArray (0, 0) _ (K1.out.below' bb7) under_key rfl (cellsB_size _ HK.out) ?_)
    | (refine wpList_load_row rfl 23 (.tmp 8) rfl (w.heap.size + 1 + 1) rfl 23 (cellsB a).toArray (0, 0) _ (A1'.out.below' bb7) under_key rfl (cellsB_size _ HA.out) ?_)
    | (refine wpList_load_row rfl 26 (.tmp 9) rfl (w.heap.size + 1 + 1 + 1) rfl 26 (recC x q D M cD).toArray (0, 0) _ (R1.out.below' bb7) Try.underlying26 rfl (rec_info _ _ _ HX.out HQ.out) ?_))
  clear hr7 hf7
  refine (H4.out _ _ _ (HBz.out.below (b1.trans (bb7.mono b1.size)))).mono ?_
  rintro e w8 ⟨⟨A8, c8, rfl, ho8⟩, hb8⟩
  have S8b := T7b.out.below' hb8
  have hr8 : (rowAt w8 w3.heap.size).size = 33 := by rw [S8b.row, List.size_toArray, hl1]
  have hf8 := S8b.free
  obtain ⟨W8, hW8⟩ : ∃ W : World, W = w8.setRow w3.heap.size (recC s.x s.c A8 ns c8).toArray := ⟨_, rfl⟩
  have T8a : Hid (Blk W8 w2.heap.size 26 (recC s.x s.c A7 ns c7).toArray) := by rw [hW8]; exact (setRow_other _ _ _ _ (by omega)).trans (T7a.out.below' hb8)
  have T8b : Hid (Blk W8 w3.heap.size 26 (recC s.x s.c A8 ns c8).toArray) := by rw [hW8]; exact S8b.setRow _
  have T8t : Hid (Blk W8 w4.heap.size 26 (recC x q A6 M c6).toArray) := by rw [hW8]; exact (setRow_other _ _ _ _ (by omega)).trans (T7t.out.below' hb8)
  have O8t : Hid (OB (w4.heap.size + 1) W8 A6 c6 z) := by rw [hW8]; exact (O7t.out.below hb8).low (by omega) _
  have O8 : Hid (OB W6.heap.size W8 A7 c7 s.d) := by rw [hW8]; exact (O7.out.below hb8).low (by omega) _
  have O8b : Hid (OB W7.heap.size W8 A8 c8 s.d) := by rw [hW8]; exact ho8.low (by omega) _
  have bb8 : Below w1.heap.size w1 W8 := by rw [hW8]; exact below_setRow (bel_on bb7 hb8) (by omega) _
  clear ho8 S8b
  go_wp2_with (first
    | (rw [← hW8]; clear hW8; refine wpList_load_row rfl 26 (.tmp 12) rfl (w2.heap.size) rfl 26 (recC s.x s.c A7 ns c7).toArray (0, 0) _ (T8a.out) Try.underlying26 rfl (rec_info _ _ _ HSX.out HSC.out) ?_)
    | (refine wpList_load_row rfl 26 (.tmp 14) rfl (w3.heap.size) rfl 26 (recC s.x s.c A8 ns c8).toArray (0, 0) _ (T8b.out) Try.underlying26 rfl (rec_info _ _ _ HSX.out HSC.out) ?_))
  clear hr8 hf8
  refine (same_any s.x s.c s.d A7 c7 A8 c8 _ HNS.out HSX.out HSC.out (O8.out.br (by rw [HNS.out]; omega)) (O8b.out.br (by rw [HNS.out]; omega))).mono ?_
  rintro e w9 ⟨rfl, hb9⟩
  have T9a := Lib.hid (T8a.out.below' hb9)
  have T9t := Lib.hid (T8t.out.below' hb9)
  have O9t := Lib.hid (O8t.out.below hb9)
  have O9 := Lib.hid (O8.out.below hb9)
  have bb9 : Below w1.heap.size w1 w9 := bel_on bb8 hb9
  have n16 : w1.heap.size ≤ W6.heap.size := by omega
  have n26 : w2.heap.size < W6.heap.size := by omega
  go_wp2_with fail
  go_loopw [17] (fun vi wr => ∃ (i : Nat) (l : List UInt8), i ≤ ns ∧ vi = .int .i64 (i : Int) ∧ Hid (l.length = ns) ∧ Hid (OB W6.heap.size wr A7 c7 l) ∧ Below W6.heap.size w9 wr) (fun vi _ => ns - (intOf vi).toNat)
  case atStart => exact ⟨0, s.d, by omega, rfl, HNS.out, O9.out, Below.refl _ _⟩
  case round =>
    obtain ⟨i, l, hi, rfl, HLN, HO, hbel⟩ := hrel
    have TA := Lib.hid (T9a.out.below hbel n26)
    have hcA := rec_data TA.out HSX.out HSC.out
    by_cases hlt : i < ns
    · have hii : (i : Int) < ns := by omega
      obtain ⟨g, rfl, hg, hgl, c0, f0, hset⟩ := HO.out.at_ (i := i) (by rw [HLN.out]; exact hlt)
      obtain ⟨u, hu⟩ : ∃ u, l.getD i 0 = u := ⟨_, rfl⟩
      rw [hu] at c0
      have HXX := Lib.hid (xor_one u)
      have hu1 : (u.toNat : Int) ≤ 255 := by have := u.toNat_lt; omega
      have HSET := Lib.hid hset
      clear hset hu
      go_wp2_with fail
      rw [HXX.out]
      refine ⟨⟨i + 1, l.set i (u ^^^ 1), by omega, by go_num, by unfold Hid; rw [List.length_set]; exact HLN.out, HSET.out _, hbel.setCell (p := ⟨g, i, none⟩) hg _⟩, by simp [intOf]; omega⟩
    · obtain rfl : i = ns := by omega
      have bb10 : Below w1.heap.size w1 wr := bb9.trans (hbel.mono n16)
      have T10t := Lib.hid (T9t.out.below hbel n46)
      have O10t := Lib.hid (O9t.out.belowB hbel O6t.out.lt)
      go_wp2_with (first
      | (refine wpList_load_row rfl 23 (.tmp 5) rfl (w.heap.size) rfl 23 (cellsB k).toArray (0, 0) _ (K1.out.below' bb10) under_key rfl (cellsB_size _ HK.out) ?_)
      | (refine wpList_load_row rfl 26 (.tmp 16) rfl (w4.heap.size) rfl 26 (recC x q A6 M c6).toArray (0, 0) _ (T10t.out) Try.underlying26 rfl (rec_info _ _ _ HX.out HQ.out) ?_))
      refine (H5.out _ _ _ (O10t.out.br (by rw [HM.out]; omega))).mono ?_
      rintro e w11 ⟨⟨A11, c11, rfl, ho11⟩, hb11⟩
      have HO11 := Lib.hid ho11
      have bb11 := bel_on bb10 hb11
      clear ho11
      go_wp2_with (first
      | (refine wpList_load_row rfl 23 (.tmp 5) rfl (w.heap.size) rfl 23 (cellsB k).toArray (0, 0) _ (K1.out.below' bb11) under_key rfl (cellsB_size _ HK.out) ?_)
      | (refine wpList_load_row rfl 26 (.tmp 9) rfl (w.heap.size + 1 + 1 + 1) rfl 26 (recC x q D M cD).toArray (0, 0) _ (R1.out.below' bb11) Try.underlying26 rfl (rec_info _ _ _ HX.out HQ.out) ?_))
      refine (H6.out _ _ _ (HBz.out.below (b1.trans (bb11.mono b1.size)))).mono ?_
      rintro e w12 ⟨⟨A12, c12, rfl, ho12⟩, hb12⟩
      have bb12 := bel_on bb11 hb12
      have hs1 : (convert 24 9 (.slice A11 np c11)).run Try.prog w12 = .ok (.string (strB p.1)) w12 := run_string_br ((HO11.out.below hb12).br (by rw [HNP.out]; omega)) _ HNP.out
      have hs2 : (convert 24 9 (.slice A12 np c12)).run Try.prog w12 = .ok (.string (strB p.1)) w12 := run_string_br (ho12.br (by rw [HNP.out]; omega)) _ HNP.out
      have hs3 : (convert 24 9 (.slice A1 L c1)).run Try.prog w12 = .ok (.string (strB b)) w12 := run_string_br (OW1.out.below bb12) _ HL.out
      have hs4 : (convert 24 9 (.slice A L cA)).run Try.prog w12 = .ok (.string (strB b)) w12 := run_string_br (HBb.out.below (b1.trans (bb12.mono b1.size))) _ HL.out
      have T12t := Lib.hid ((T10t.out.below' hb11).below' hb12)
      have O12t := Lib.hid ((O10t.out.below hb11).below hb12)
      have R12 := Lib.hid (R1.out.below' bb12)
      clear ho12
      go_wp2_with (first
      | (refine BigFrame.wpList_want (by kernel_rfl) fun K hK => wp_load_row 26 (.tmp 16) rfl (w4.heap.size) rfl 26 (recC x q A6 M c6).toArray (0, 0) _ (T12t.out) Try.underlying26 rfl (rec_info _ _ _ HX.out HQ.out) (hK _ _ ?_))
      | (refine BigFrame.wpList_want (by kernel_rfl) fun K hK => wp_load_row 26 (.tmp 9) rfl (w.heap.size + 1 + 1 + 1) rfl 26 (recC x q D M cD).toArray (0, 0) _ (R12.out) Try.underlying26 rfl (rec_info _ _ _ HX.out HQ.out) (hK _ _ ?_)))
      refine (same_any x q z A6 c6 D cD _ HM.out HX.out HQ.out (O12t.out.br (by rw [HM.out]; omega)) (HBz.out.below (b1.trans (bb12.mono b1.size)))).mono ?_
      rintro e w13 ⟨rfl, hb13⟩
      go_wp2_with fail
      go_ret
      exact ⟨by simp, b1.trans ((bel_on bb12 hb13).mono b1.size)⟩
end Go.Proofs.Ytinpiodfpnbllaa
