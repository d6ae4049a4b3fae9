/-
  The walk of the law NumberExamples.
-/
import Derived.Test.YtphaojdfeojpeaaFullWalk
import Derived.Test.YtphaojdfeojpeaaFracTopA
import Derived.Test.YtphaojdfeojpeaaFracTopM
namespace Go.Proofs.Ytphaojdfeojpeaa
open Go.RowKit
set_option linter.unusedVariables false

theorem ex_s0 : (sameB [] (digs 0) && sameB [1] (digs 1)) = true := by rw [ex_of, d1 1 (by omega) (by omega)]; rfl
theorem ex_s1 : (sameB [5] (digs 5) && sameB [6] (digs 6)) = true := by rw [d1 5 (by omega) (by omega), d1 6 (by omega) (by omega)]; rfl
theorem ex_s2 : (sameB [1] (digs 1) && sameB [2] (digs 2)) = true := by rw [d1 1 (by omega) (by omega), d1 2 (by omega) (by omega)]; rfl
set_option maxHeartbeats 8000000 in
set_option maxRecDepth 100000 in
theorem numberExamples_walk (w : World) : Calls Try.prog 18 #[] w fun e w' => e = .returned (.bool true) ∧ Below w.heap.size w w' := by
  have k : Below w.heap.size w w := Below.refl _ _
  go_enter Try.func18, Try.ntmps18
  go_wp2_with (at_make; first | (refine wpList_make_nat _ rfl _ _ rfl 17 rfl rfl (by omega) (by omega) (by omega) ?_; intro wa hka hba hsa; have ca : wa.cell? ⟨w.heap.size, 16, none⟩ = some (.int .u32 0) := (by simp [World.cell?, hka.1]; rfl); have fa : wa.frozen? ⟨w.heap.size, 16, none⟩ = false := (by simp [World.frozen?, hka.1]); have HKa := Lib.hid hka; clear hka) | (refine wpList_make_nat _ rfl _ _ rfl 9 rfl rfl (by omega) (by omega) (by omega) ?_; intro wb hkb0 hbb0 hsb; have hkb : BlkN wb wa.heap.size (List.replicate 9 0) := (by simpa using hkb0); have hbb : Below wa.heap.size (wa.setCell ⟨w.heap.size, 16, none⟩ (.int .u32 1)) wb := (by simpa using hbb0); have cb : wb.cell? ⟨wa.heap.size, 8, none⟩ = some (.int .u32 0) := (by simp [World.cell?, hkb.1]; rfl); have fb : wb.frozen? ⟨wa.heap.size, 8, none⟩ = false := (by simp [World.frozen?, hkb.1]); have HKb := Lib.hid hkb; clear hkb hkb0 hbb0))
  obtain ⟨va, hva⟩ : ∃ V : World, V = wa.setCell ⟨w.heap.size, 16, none⟩ (.int .u32 1) := ⟨_, rfl⟩
  obtain ⟨vb, hvb⟩ : ∃ V : World, V = wb.setCell ⟨wa.heap.size, 8, none⟩ (.int .u32 1) := ⟨_, rfl⟩
  have Ha0 : NR va (some ⟨w.heap.size, 0, none⟩) 17 seventeen := by rw [hva]; exact ((HKa.out.nf (B := 0) (Nat.zero_le _) (by simp) (by omega) (by simp)).set (i := 16) (x := 1) (by simp) (by omega)).1
  have Hb : Hid (NR vb (some ⟨wa.heap.size, 0, none⟩) 9 half) := by rw [hvb]; exact ((HKb.out.nf (B := 0) (Nat.zero_le _) (by simp) (by omega) (by simp)).set (i := 8) (x := 1) (by simp) (by omega)).1
  have ba : Below w.heap.size w va := by rw [hva]; exact hba.setCell (p := ⟨w.heap.size, 16, none⟩) (Nat.le_refl _) _
  have bb : Below va.heap.size va vb := by
    have e : va.heap.size = wa.heap.size := by rw [hva]; simp
    rw [e, hvb, hva]
    exact hbb.setCell (p := ⟨wa.heap.size, 8, none⟩) (Nat.le_refl _) _
  have Ha := Lib.hid (Ha0.below bb)
  replace k := ba.trans (bb.mono ba.size)
  have HVb := Lib.hid hvb
  clear Ha0 ba bb hva hvb hba hbb ca cb fa fb HKa HKb hsa hsb
  rw [← HVb.out]
  refine (n_any 4294967296 _ rfl (by omega)).mono ?_
  rintro e w1 ⟨N1, cn1, rfl, hn, b1⟩
  replace Ha := Lib.hid (Ha.out.below b1)
  replace Hb := Lib.hid (Hb.out.below b1)
  replace k := k.trans (b1.mono k.size)
  have HN1 := Lib.hid (hn.1)
  clear b1
  clear hn
  go_wp2_with fail
  refine (n_any 1 _ rfl (by omega)).mono ?_
  rintro e w2 ⟨N2, cn2, rfl, hn, b2⟩
  replace Ha := Lib.hid (Ha.out.below b2)
  replace Hb := Lib.hid (Hb.out.below b2)
  replace HN1 := Lib.hid (HN1.out.below b2)
  replace k := k.trans (b2.mono k.size)
  have HN2 := Lib.hid (hn.1)
  clear b2
  clear hn
  go_wp2_with fail
  refine (Sub_any N1 cn1 (digs 4294967296) N2 cn2 (digs 1) _ rfl rfl HN1.out HN2.out).mono ?_
  rintro e w3 ⟨X3, c3, rfl, h, b3⟩
  replace Ha := Lib.hid (Ha.out.below b3)
  replace Hb := Lib.hid (Hb.out.below b3)
  replace HN1 := Lib.hid (HN1.out.below b3)
  replace HN2 := Lib.hid (HN2.out.below b3)
  replace k := k.trans (b3.mono k.size)
  rw [ex_sub] at h ⊢
  have H3 : Hid (NR w3 X3 c3 ([4294967295])) := h.1
  clear b3
  clear h
  go_wp2_with fail
  clear HN1
  clear HN2
  refine (n_any 1 _ rfl (by omega)).mono ?_
  rintro e w4 ⟨N4, cn4, rfl, hn, b4⟩
  replace Ha := Lib.hid (Ha.out.below b4)
  replace Hb := Lib.hid (Hb.out.below b4)
  replace H3 := Lib.hid (H3.out.below b4)
  replace k := k.trans (b4.mono k.size)
  have HN4 := Lib.hid (hn.1)
  clear b4
  clear hn
  go_wp2_with fail
  refine (n_any 2 _ rfl (by omega)).mono ?_
  rintro e w5 ⟨N5, cn5, rfl, hn, b5⟩
  replace Ha := Lib.hid (Ha.out.below b5)
  replace Hb := Lib.hid (Hb.out.below b5)
  replace H3 := Lib.hid (H3.out.below b5)
  replace HN4 := Lib.hid (HN4.out.below b5)
  replace k := k.trans (b5.mono k.size)
  have HN5 := Lib.hid (hn.1)
  clear b5
  clear hn
  go_wp2_with fail
  refine (Sub_any N4 cn4 (digs 1) N5 cn5 (digs 2) _ rfl rfl HN4.out HN5.out).mono ?_
  rintro e w6 ⟨X6, c6, rfl, h, b6⟩
  replace Ha := Lib.hid (Ha.out.below b6)
  replace Hb := Lib.hid (Hb.out.below b6)
  replace H3 := Lib.hid (H3.out.below b6)
  replace HN4 := Lib.hid (HN4.out.below b6)
  replace HN5 := Lib.hid (HN5.out.below b6)
  replace k := k.trans (b6.mono k.size)
  rw [ex_less] at h ⊢
  have H6 : Hid (NR w6 X6 c6 (([] : List Nat))) := h.1
  clear b6
  clear h
  go_wp2_with fail
  clear HN4
  clear HN5
  clear H6
  refine (full_any _).mono ?_
  rintro e w7 ⟨F7, cf7, rfl, hf, b7⟩
  replace Ha := Lib.hid (Ha.out.below b7)
  replace Hb := Lib.hid (Hb.out.below b7)
  replace H3 := Lib.hid (H3.out.below b7)
  replace k := k.trans (b7.mono k.size)
  have HF7 := Lib.hid (hf.1)
  clear b7
  clear hf
  go_wp2_with fail
  refine (n_any 1 _ rfl (by omega)).mono ?_
  rintro e w8 ⟨N8, cn8, rfl, hn, b8⟩
  replace Ha := Lib.hid (Ha.out.below b8)
  replace Hb := Lib.hid (Hb.out.below b8)
  replace H3 := Lib.hid (H3.out.below b8)
  replace HF7 := Lib.hid (HF7.out.below b8)
  replace k := k.trans (b8.mono k.size)
  have HN8 := Lib.hid (hn.1)
  clear b8
  clear hn
  go_wp2_with fail
  refine (Add_any F7 cf7 fullL N8 cn8 (digs 1) _ rfl rfl HF7.out HN8.out).mono ?_
  rintro e w9 ⟨X9, c9, rfl, h, b9⟩
  replace Ha := Lib.hid (Ha.out.below b9)
  replace Hb := Lib.hid (Hb.out.below b9)
  replace H3 := Lib.hid (H3.out.below b9)
  replace HF7 := Lib.hid (HF7.out.below b9)
  replace HN8 := Lib.hid (HN8.out.below b9)
  replace k := k.trans (b9.mono k.size)
  rw [ex_add] at h ⊢
  have H9 : Hid (NR w9 X9 c9 (([] : List Nat))) := h.1
  clear b9
  clear h
  go_wp2_with fail
  clear HF7
  clear HN8
  clear H9
  refine (Mul_any (some ⟨wa.heap.size, 0, none⟩) 9 half (some ⟨wa.heap.size, 0, none⟩) 9 half _ rfl rfl Hb.out Hb.out).mono ?_
  rintro e w10 ⟨X10, c10, rfl, h, b10⟩
  replace Ha := Lib.hid (Ha.out.below b10)
  replace Hb := Lib.hid (Hb.out.below b10)
  replace H3 := Lib.hid (H3.out.below b10)
  replace k := k.trans (b10.mono k.size)
  rw [ex_mul] at h ⊢
  have H10 : Hid (NR w10 X10 c10 (([] : List Nat))) := h.1
  clear b10
  clear h
  go_wp2_with fail
  clear H10
  clear Hb
  refine (alive_any _).mono ?_
  rintro e w11 ⟨rfl, b11⟩
  replace Ha := Lib.hid (Ha.out.below b11)
  replace H3 := Lib.hid (H3.out.below b11)
  replace k := k.trans (b11.mono k.size)
  clear b11
  go_wp2_with fail
  refine (is_any X3 c3 [4294967295] 0 _ 1 [4294967295] _ rfl rfl (H3.out.alloc _) (NR.lit _ [4294967295] _ rfl (dig_small (by decide)) 1 rfl (by omega))).mono ?_
  rintro e w12 ⟨rfl, b12⟩
  rw [isB_yes]
  replace Ha := Lib.hid ((Ha.out.alloc _).below b12)
  replace H3 := Lib.hid ((H3.out.alloc _).below b12)
  replace k := (k.alloc k.size _).trans (b12.mono (by have := k.size; simp; omega))
  clear b12
  go_wp2_with fail
  clear H3
  refine (Check_any _ 2 [1, 0] _ rfl (NR.lit _ [1, 0] _ rfl (dig_small (by decide)) 2 rfl (by omega))).mono ?_
  rintro e w13 ⟨rfl, b13⟩
  rw [ex_c1]
  replace Ha := Lib.hid ((Ha.out.alloc _).below b13)
  replace k := (k.alloc k.size _).trans (b13.mono (by have := k.size; simp; omega))
  clear b13
  go_wp2_with fail
  refine (Check_any (some ⟨w.heap.size, 0, none⟩) 17 seventeen _ rfl Ha.out).mono ?_
  rintro e w14 ⟨rfl, b14⟩
  replace Ha := Lib.hid (Ha.out.below b14)
  replace k := k.trans (b14.mono k.size)
  rw [ex_c2]
  clear b14
  go_wp2_with fail
  clear Ha
  refine (full_any _).mono ?_
  rintro e w15 ⟨F15, cf15, rfl, hf, b15⟩
  replace k := k.trans (b15.mono k.size)
  have HF15 := Lib.hid (hf.1)
  clear b15
  clear hf
  go_wp2_with fail
  refine (Check_any F15 cf15 fullL _ rfl HF15.out).mono ?_
  rintro e w16 ⟨rfl, b16⟩
  replace HF15 := Lib.hid (HF15.out.below b16)
  replace k := k.trans (b16.mono k.size)
  rw [ex_c3]
  clear b16
  go_wp2_with fail
  clear HF15
  refine (Of_any 0 _ (by omega)).mono ?_
  rintro e w17 ⟨O17, co17, rfl, ho, b17⟩
  replace k := k.trans (b17.mono k.size)
  rw [ex_of] at ho ⊢
  clear b17
  clear ho
  go_wp2_with fail
  refine (n_any 7 _ rfl (by omega)).mono ?_
  rintro e w18 ⟨N18, cn18, rfl, hn, b18⟩
  replace k := k.trans (b18.mono k.size)
  have HN18 := Lib.hid (hn.1)
  clear b18
  clear hn
  go_wp2_with fail
  refine (Div_any N18 cn18 (digs 7) none 0 [] _ rfl rfl HN18.out (NR.nil _)).mono ?_
  rintro e w19 ⟨Q19, cq19, R19, cr19, rfl, h, hr, hap, b19⟩
  replace HN18 := Lib.hid (HN18.out.below b19)
  replace k := k.trans (b19.mono k.size)
  rw [ex_div] at h hr hap ⊢
  clear b19
  clear h hr hap
  go_wp2_with fail
  clear HN18
  refine (n_any 5 _ rfl (by omega)).mono ?_
  rintro e w20 ⟨N20, cn20, rfl, hn, b20⟩
  replace k := k.trans (b20.mono k.size)
  have HN20 := Lib.hid (hn.1)
  clear b20
  clear hn
  go_wp2_with fail
  refine (Gcd_any none 0 [] N20 cn20 (digs 5) _ rfl rfl (NR.nil _) HN20.out).mono ?_
  rintro e w21 ⟨X21, c21, rfl, h, b21⟩
  replace HN20 := Lib.hid (HN20.out.below b21)
  replace k := k.trans (b21.mono k.size)
  rw [ex_gcd] at h ⊢
  have H21 : Hid (NR w21 X21 c21 [5]) := h.1
  clear b21
  clear h
  go_wp2_with fail
  clear HN20
  refine (Parse_any _ [] (by rw [ByteArray.toList_eq]) _ (by decide)).mono ?_
  rintro e w22 ⟨P22, cp22, rfl, h, b22⟩
  replace H21 := Lib.hid (H21.out.below b22)
  replace k := k.trans (b22.mono k.size)
  rw [ex_p1] at h ⊢
  clear b22
  clear h
  go_wp2_with fail
  refine (Parse_any _ [48, 49] (by rw [ByteArray.toList_eq]) _ (by decide)).mono ?_
  rintro e w23 ⟨P23, cp23, rfl, h, b23⟩
  replace H21 := Lib.hid (H21.out.below b23)
  replace k := k.trans (b23.mono k.size)
  rw [ex_p2] at h ⊢
  clear b23
  clear h
  go_wp2_with fail
  refine (Parse_any _ [45, 49] (by rw [ByteArray.toList_eq]) _ (by decide)).mono ?_
  rintro e w24 ⟨P24, cp24, rfl, h, b24⟩
  replace H21 := Lib.hid (H21.out.below b24)
  replace k := k.trans (b24.mono k.size)
  rw [ex_p3] at h ⊢
  clear b24
  clear h
  go_wp2_with fail
  refine (is_any X21 c21 [5] 0 _ 1 [5] _ rfl rfl (H21.out.alloc _) (NR.lit _ [5] _ rfl (dig_small (by decide)) 1 rfl (by omega))).mono ?_
  rintro e w25 ⟨rfl, b25⟩
  rw [isB_yes]
  replace H21 := Lib.hid ((H21.out.alloc _).below b25)
  replace k := (k.alloc k.size _).trans (b25.mono (by have := k.size; simp; omega))
  clear b25
  go_wp2_with fail
  clear H21
  refine (n_any 9 _ rfl (by omega)).mono ?_
  rintro e w26 ⟨N26, cn26, rfl, hn, b26⟩
  replace k := k.trans (b26.mono k.size)
  have HN26 := Lib.hid (hn.1)
  clear b26
  clear hn
  go_wp2_with fail
  refine (Ratio_any none 0 [] N26 cn26 (digs 9) _ rfl rfl (NR.nil _) HN26.out).mono ?_
  rintro e w27 ⟨vv, rfl, hF⟩
  rw [ex_r1] at hF ⊢
  obtain ⟨X1, cX1, X2, cX2, rfl, h1, h2, hap, b27⟩ := hF
  replace HN26 := Lib.hid (HN26.out.below b27)
  replace k := k.trans (b27.mono k.size)
  have HX1 := Lib.hid h1.1
  have HX2 := Lib.hid h2.1
  clear h1 h2 hap b27
  clear HN26
  go_wp2_with fail
  obtain ⟨W27, hW⟩ : ∃ V : World, V = w27.alloc (.cells #[.slice X1 0 cX1, .slice X2 1 cX2] 54) := ⟨_, rfl⟩
  obtain ⟨gX, hg⟩ : ∃ x, x = w27.heap.size := ⟨_, rfl⟩
  have bb : Below w27.heap.size w27 W27 := by rw [hW]; exact alloc_below _ _
  have HW27 := Lib.hid hW
  have HGX := Lib.hid hg
  have BXX : Hid (Bx W27 gX (.slice X1 0 cX1) (.slice X2 1 cX2)) := by rw [hW, hg]; exact Bx.new _ _ _
  replace HX1 := Lib.hid (HX1.out.below bb)
  replace HX2 := Lib.hid (HX2.out.below bb)
  replace k := k.trans (bb.mono k.size)
  clear hW hg bb
  rw [← HGX.out, ← HW27.out]
  refine (n_any 1 _ rfl (by omega)).mono ?_
  rintro e w28 ⟨N28, cn28, rfl, hn, b28⟩
  replace HX1 := Lib.hid (HX1.out.below b28)
  replace HX2 := Lib.hid (HX2.out.below b28)
  replace BXX := Lib.hid (BXX.out.below b28)
  replace k := k.trans (b28.mono k.size)
  have HN28 := Lib.hid (hn.1)
  clear b28
  clear hn
  go_wp2_with fail
  refine (Ratio_any N28 cn28 (digs 1) none 0 [] _ rfl rfl HN28.out (NR.nil _)).mono ?_
  rintro e w29 ⟨vv, rfl, hF⟩
  rw [ex_r2] at hF ⊢
  obtain ⟨Z1, cZ1, Z2, cZ2, rfl, h1, h2, hap, b29⟩ := hF
  clear HN28
  replace HX1 := Lib.hid (HX1.out.below b29)
  replace HX2 := Lib.hid (HX2.out.below b29)
  replace BXX := Lib.hid (BXX.out.below b29)
  replace k := k.trans (b29.mono k.size)
  clear h1 h2 hap b29
  go_wp2_with fail
  refine (fraction_any 1 2 _ rfl rfl (by omega) (by omega)).mono ?_
  rintro e w30 ⟨vv, rfl, A1, cA1, A2, cA2, rfl, h1, h2, hap, b30⟩
  replace HX1 := Lib.hid (HX1.out.below b30)
  replace HX2 := Lib.hid (HX2.out.below b30)
  replace BXX := Lib.hid (BXX.out.below b30)
  replace k := k.trans (b30.mono k.size)
  have HA1 := Lib.hid h1.1
  have HA2 := Lib.hid h2.1
  clear h1 h2 hap b30
  go_wp2_with fail
  refine (fraction_any 1 3 _ rfl rfl (by omega) (by omega)).mono ?_
  rintro e w31 ⟨vv, rfl, B1, cB1, B2, cB2, rfl, h1, h2, hap, b31⟩
  replace HX1 := Lib.hid (HX1.out.below b31)
  replace HX2 := Lib.hid (HX2.out.below b31)
  replace BXX := Lib.hid (BXX.out.below b31)
  replace HA1 := Lib.hid (HA1.out.below b31)
  replace HA2 := Lib.hid (HA2.out.below b31)
  replace k := k.trans (b31.mono k.size)
  have HB1 := Lib.hid h1.1
  have HB2 := Lib.hid h2.1
  clear h1 h2 hap b31
  go_wp2_with fail
  refine (AddFractions_any A1 cA1 (digs 1) A2 cA2 (digs 2) B1 cB1 (digs 1) B2 cB2 (digs 3) _ rfl rfl rfl rfl HA1.out HA2.out HB1.out HB2.out).mono ?_
  rintro e w32 ⟨vv, rfl, hF⟩
  rw [ex_addf] at hF ⊢
  obtain ⟨Y1, cY1, Y2, cY2, rfl, h1, h2, hap, b32⟩ := hF
  replace HX1 := Lib.hid (HX1.out.below b32)
  replace HX2 := Lib.hid (HX2.out.below b32)
  replace BXX := Lib.hid (BXX.out.below b32)
  replace HA1 := Lib.hid (HA1.out.below b32)
  replace HA2 := Lib.hid (HA2.out.below b32)
  replace HB1 := Lib.hid (HB1.out.below b32)
  replace HB2 := Lib.hid (HB2.out.below b32)
  replace k := k.trans (b32.mono k.size)
  have HY1 := Lib.hid h1.1
  have HY2 := Lib.hid h2.1
  clear h1 h2 hap b32
  clear HA1
  clear HA2
  clear HB1
  clear HB2
  go_wp2_with fail
  obtain ⟨W32, hW⟩ : ∃ V : World, V = w32.alloc (.cells #[.slice Y1 1 cY1, .slice Y2 1 cY2] 54) := ⟨_, rfl⟩
  obtain ⟨gY, hg⟩ : ∃ x, x = w32.heap.size := ⟨_, rfl⟩
  have bb : Below w32.heap.size w32 W32 := by rw [hW]; exact alloc_below _ _
  have HW32 := Lib.hid hW
  have HGY := Lib.hid hg
  have BXY : Hid (Bx W32 gY (.slice Y1 1 cY1) (.slice Y2 1 cY2)) := by rw [hW, hg]; exact Bx.new _ _ _
  replace HX1 := Lib.hid (HX1.out.below bb)
  replace HX2 := Lib.hid (HX2.out.below bb)
  replace BXX := Lib.hid (BXX.out.below bb)
  replace HY1 := Lib.hid (HY1.out.below bb)
  replace HY2 := Lib.hid (HY2.out.below bb)
  replace k := k.trans (bb.mono k.size)
  clear hW hg bb
  rw [← HGY.out, ← HW32.out]
  refine (fraction_any 2 3 _ rfl rfl (by omega) (by omega)).mono ?_
  rintro e w33 ⟨vv, rfl, C1, cC1, C2, cC2, rfl, h1, h2, hap, b33⟩
  replace HX1 := Lib.hid (HX1.out.below b33)
  replace HX2 := Lib.hid (HX2.out.below b33)
  replace BXX := Lib.hid (BXX.out.below b33)
  replace HY1 := Lib.hid (HY1.out.below b33)
  replace HY2 := Lib.hid (HY2.out.below b33)
  replace BXY := Lib.hid (BXY.out.below b33)
  replace k := k.trans (b33.mono k.size)
  have HC1 := Lib.hid h1.1
  have HC2 := Lib.hid h2.1
  clear h1 h2 hap b33
  go_wp2_with fail
  refine (fraction_any 3 4 _ rfl rfl (by omega) (by omega)).mono ?_
  rintro e w34 ⟨vv, rfl, D1, cD1, D2, cD2, rfl, h1, h2, hap, b34⟩
  replace HX1 := Lib.hid (HX1.out.below b34)
  replace HX2 := Lib.hid (HX2.out.below b34)
  replace BXX := Lib.hid (BXX.out.below b34)
  replace HY1 := Lib.hid (HY1.out.below b34)
  replace HY2 := Lib.hid (HY2.out.below b34)
  replace BXY := Lib.hid (BXY.out.below b34)
  replace HC1 := Lib.hid (HC1.out.below b34)
  replace HC2 := Lib.hid (HC2.out.below b34)
  replace k := k.trans (b34.mono k.size)
  have HD1 := Lib.hid h1.1
  have HD2 := Lib.hid h2.1
  clear h1 h2 hap b34
  go_wp2_with fail
  refine (MulFractions_any C1 cC1 (digs 2) C2 cC2 (digs 3) D1 cD1 (digs 3) D2 cD2 (digs 4) _ rfl rfl rfl rfl HC1.out HC2.out HD1.out HD2.out).mono ?_
  rintro e w35 ⟨vv, rfl, hF⟩
  rw [ex_mulf] at hF ⊢
  obtain ⟨V1, cV1, V2, cV2, rfl, h1, h2, hap, b35⟩ := hF
  replace HX1 := Lib.hid (HX1.out.below b35)
  replace HX2 := Lib.hid (HX2.out.below b35)
  replace BXX := Lib.hid (BXX.out.below b35)
  replace HY1 := Lib.hid (HY1.out.below b35)
  replace HY2 := Lib.hid (HY2.out.below b35)
  replace BXY := Lib.hid (BXY.out.below b35)
  replace HC1 := Lib.hid (HC1.out.below b35)
  replace HC2 := Lib.hid (HC2.out.below b35)
  replace HD1 := Lib.hid (HD1.out.below b35)
  replace HD2 := Lib.hid (HD2.out.below b35)
  replace k := k.trans (b35.mono k.size)
  have HV1 := Lib.hid h1.1
  have HV2 := Lib.hid h2.1
  clear h1 h2 hap b35
  clear HC1
  clear HC2
  clear HD1
  clear HD2
  go_wp2_with fail
  obtain ⟨W35, hW⟩ : ∃ V : World, V = w35.alloc (.cells #[.slice V1 1 cV1, .slice V2 1 cV2] 54) := ⟨_, rfl⟩
  obtain ⟨gV, hg⟩ : ∃ x, x = w35.heap.size := ⟨_, rfl⟩
  have bb : Below w35.heap.size w35 W35 := by rw [hW]; exact alloc_below _ _
  have HW35 := Lib.hid hW
  have HGV := Lib.hid hg
  have BXV : Hid (Bx W35 gV (.slice V1 1 cV1) (.slice V2 1 cV2)) := by rw [hW, hg]; exact Bx.new _ _ _
  replace HX1 := Lib.hid (HX1.out.below bb)
  replace HX2 := Lib.hid (HX2.out.below bb)
  replace BXX := Lib.hid (BXX.out.below bb)
  replace HY1 := Lib.hid (HY1.out.below bb)
  replace HY2 := Lib.hid (HY2.out.below bb)
  replace BXY := Lib.hid (BXY.out.below bb)
  replace HV1 := Lib.hid (HV1.out.below bb)
  replace HV2 := Lib.hid (HV2.out.below bb)
  replace k := k.trans (bb.mono k.size)
  clear hW hg bb
  rw [← HGV.out, ← HW35.out]
  refine (fraction_any 1 3 _ rfl rfl (by omega) (by omega)).mono ?_
  rintro e w36 ⟨vv, rfl, E1, cE1, E2, cE2, rfl, h1, h2, hap, b36⟩
  replace HX1 := Lib.hid (HX1.out.below b36)
  replace HX2 := Lib.hid (HX2.out.below b36)
  replace BXX := Lib.hid (BXX.out.below b36)
  replace HY1 := Lib.hid (HY1.out.below b36)
  replace HY2 := Lib.hid (HY2.out.below b36)
  replace BXY := Lib.hid (BXY.out.below b36)
  replace HV1 := Lib.hid (HV1.out.below b36)
  replace HV2 := Lib.hid (HV2.out.below b36)
  replace BXV := Lib.hid (BXV.out.below b36)
  replace k := k.trans (b36.mono k.size)
  have HE1 := Lib.hid h1.1
  have HE2 := Lib.hid h2.1
  clear h1 h2 hap b36
  go_wp2_with fail
  refine (fraction_any 2 5 _ rfl rfl (by omega) (by omega)).mono ?_
  rintro e w37 ⟨vv, rfl, G1, cG1, G2, cG2, rfl, h1, h2, hap, b37⟩
  replace HX1 := Lib.hid (HX1.out.below b37)
  replace HX2 := Lib.hid (HX2.out.below b37)
  replace BXX := Lib.hid (BXX.out.below b37)
  replace HY1 := Lib.hid (HY1.out.below b37)
  replace HY2 := Lib.hid (HY2.out.below b37)
  replace BXY := Lib.hid (BXY.out.below b37)
  replace HV1 := Lib.hid (HV1.out.below b37)
  replace HV2 := Lib.hid (HV2.out.below b37)
  replace BXV := Lib.hid (BXV.out.below b37)
  replace HE1 := Lib.hid (HE1.out.below b37)
  replace HE2 := Lib.hid (HE2.out.below b37)
  replace k := k.trans (b37.mono k.size)
  have HG1 := Lib.hid h1.1
  have HG2 := Lib.hid h2.1
  clear h1 h2 hap b37
  go_wp2_with fail
  refine (CompareFractions_any E1 cE1 (digs 1) E2 cE2 (digs 3) G1 cG1 (digs 2) G2 cG2 (digs 5) _ rfl rfl rfl rfl HE1.out HE2.out HG1.out HG2.out).mono ?_
  rintro e w38 ⟨rfl, b38⟩
  replace HX1 := Lib.hid (HX1.out.below b38)
  replace HX2 := Lib.hid (HX2.out.below b38)
  replace BXX := Lib.hid (BXX.out.below b38)
  replace HY1 := Lib.hid (HY1.out.below b38)
  replace HY2 := Lib.hid (HY2.out.below b38)
  replace BXY := Lib.hid (BXY.out.below b38)
  replace HV1 := Lib.hid (HV1.out.below b38)
  replace HV2 := Lib.hid (HV2.out.below b38)
  replace BXV := Lib.hid (BXV.out.below b38)
  replace HE1 := Lib.hid (HE1.out.below b38)
  replace HE2 := Lib.hid (HE2.out.below b38)
  replace HG1 := Lib.hid (HG1.out.below b38)
  replace HG2 := Lib.hid (HG2.out.below b38)
  replace k := k.trans (b38.mono k.size)
  rw [ex_cmpf]
  clear b38
  clear HE1
  clear HE2
  clear HG1
  clear HG2
  have kD := k.drew
  have X8 : Hid (Bx w38.drew gX _ _ ∧ Bx w38.drew gY _ _ ∧ Bx w38.drew gV _ _) := ⟨BXX.out, BXY.out, BXV.out⟩
  obtain ⟨e0, e1, _, _⟩ := (X8.out.1).cells; obtain ⟨e2, e3, _, _⟩ := (X8.out.2.1).cells; obtain ⟨e4, e5, _, _⟩ := (X8.out.2.2).cells
  go_wp2_with fail
  go_region_held3 (fun w' => w'.cell? ⟨gX, 0, none⟩ = some (.slice X1 0 cX1) ∧ w'.cell? ⟨gX, 1, none⟩ = some (.slice X2 1 cX2) ∧ w'.cell? ⟨gY, 0, none⟩ = some (.slice Y1 1 cY1) ∧ w'.cell? ⟨gY, 1, none⟩ = some (.slice Y2 1 cY2) ∧ w'.cell? ⟨gV, 0, none⟩ = some (.slice V1 1 cV1) ∧ w'.cell? ⟨gV, 1, none⟩ = some (.slice V2 1 cV2)) ((first | exact ⟨g20, g21, g22, g23, g24, g25⟩ | exact ⟨f20, f21, f22, f23, f24, f25⟩ | exact ⟨g10, g11, g12, g13, g14, g15⟩ | exact ⟨f10, f11, f12, f13, f14, f15⟩ | exact ⟨g00, g01, g02, g03, g04, g05⟩ | exact ⟨f00, f01, f02, f03, f04, f05⟩ | exact ⟨e0, e1, e2, e3, e4, e5⟩ | go_keep)) (first
    | (go_at_call 37; go_loud (refine (SameFraction_any V1 cV1 [1] V2 cV2 [2] P21 cP21 (digs 1) P22 cP22 (digs 2) _ rfl rfl rfl rfl ((((((HV1.out.drew).below p0b).below q0b).below p1b).below q1b).below p2b) ((((((HV2.out.drew).below p0b).below q0b).below p1b).below q1b).below p2b) hp21.1 hp22.1).mono ?_; rintro e wq2 ⟨rfl, q2b⟩; rw [show (sameB [1] (digs 1) && sameB [2] (digs 2)) = true from ex_s2]; obtain ⟨g20, g21, _, _⟩ := (Bx.below (Bx.below (Bx.below (Bx.below (Bx.below (Bx.below (X8.out.1) p0b) q0b) p1b) q1b) p2b) q2b).cells; obtain ⟨g22, g23, _, _⟩ := (Bx.below (Bx.below (Bx.below (Bx.below (Bx.below (Bx.below (X8.out.2.1) p0b) q0b) p1b) q1b) p2b) q2b).cells; obtain ⟨g24, g25, _, _⟩ := (Bx.below (Bx.below (Bx.below (Bx.below (Bx.below (Bx.below (X8.out.2.2) p0b) q0b) p1b) q1b) p2b) q2b).cells))
    | (go_at_call 67; go_loud (refine (fraction_any 1 2 _ rfl rfl (by omega) (by omega)).mono ?_; rintro e wp2 ⟨vp2, rfl, P21, cP21, P22, cP22, rfl, hp21, hp22, hap, p2b⟩; clear hap; obtain ⟨f20, f21, _, _⟩ := (Bx.below (Bx.below (Bx.below (Bx.below (Bx.below (X8.out.1) p0b) q0b) p1b) q1b) p2b).cells; obtain ⟨f22, f23, _, _⟩ := (Bx.below (Bx.below (Bx.below (Bx.below (Bx.below (X8.out.2.1) p0b) q0b) p1b) q1b) p2b).cells; obtain ⟨f24, f25, _, _⟩ := (Bx.below (Bx.below (Bx.below (Bx.below (Bx.below (X8.out.2.2) p0b) q0b) p1b) q1b) p2b).cells))
    | (go_at_call 37; go_loud (refine (SameFraction_any Y1 cY1 [5] Y2 cY2 [6] P11 cP11 (digs 5) P12 cP12 (digs 6) _ rfl rfl rfl rfl ((((HY1.out.drew).below p0b).below q0b).below p1b) ((((HY2.out.drew).below p0b).below q0b).below p1b) hp11.1 hp12.1).mono ?_; rintro e wq1 ⟨rfl, q1b⟩; rw [show (sameB [5] (digs 5) && sameB [6] (digs 6)) = true from ex_s1]; obtain ⟨g10, g11, _, _⟩ := (Bx.below (Bx.below (Bx.below (Bx.below (X8.out.1) p0b) q0b) p1b) q1b).cells; obtain ⟨g12, g13, _, _⟩ := (Bx.below (Bx.below (Bx.below (Bx.below (X8.out.2.1) p0b) q0b) p1b) q1b).cells; obtain ⟨g14, g15, _, _⟩ := (Bx.below (Bx.below (Bx.below (Bx.below (X8.out.2.2) p0b) q0b) p1b) q1b).cells))
    | (go_at_call 67; go_loud (refine (fraction_any 5 6 _ rfl rfl (by omega) (by omega)).mono ?_; rintro e wp1 ⟨vp1, rfl, P11, cP11, P12, cP12, rfl, hp11, hp12, hap, p1b⟩; clear hap; obtain ⟨f10, f11, _, _⟩ := (Bx.below (Bx.below (Bx.below (X8.out.1) p0b) q0b) p1b).cells; obtain ⟨f12, f13, _, _⟩ := (Bx.below (Bx.below (Bx.below (X8.out.2.1) p0b) q0b) p1b).cells; obtain ⟨f14, f15, _, _⟩ := (Bx.below (Bx.below (Bx.below (X8.out.2.2) p0b) q0b) p1b).cells))
    | (go_at_call 37; go_loud (refine (SameFraction_any X1 cX1 [] X2 cX2 [1] P01 cP01 (digs 0) P02 cP02 (digs 1) _ rfl rfl rfl rfl ((HX1.out.drew).below p0b) ((HX2.out.drew).below p0b) hp01.1 hp02.1).mono ?_; rintro e wq0 ⟨rfl, q0b⟩; rw [show (sameB [] (digs 0) && sameB [1] (digs 1)) = true from ex_s0]; obtain ⟨g00, g01, _, _⟩ := (Bx.below (Bx.below (X8.out.1) p0b) q0b).cells; obtain ⟨g02, g03, _, _⟩ := (Bx.below (Bx.below (X8.out.2.1) p0b) q0b).cells; obtain ⟨g04, g05, _, _⟩ := (Bx.below (Bx.below (X8.out.2.2) p0b) q0b).cells))
    | (go_at_call 67; go_loud (refine (fraction_any 0 1 _ rfl rfl (by omega) (by omega)).mono ?_; rintro e wp0 ⟨vp0, rfl, P01, cP01, P02, cP02, rfl, hp01, hp02, hap, p0b⟩; clear hap; obtain ⟨f00, f01, _, _⟩ := (Bx.below (X8.out.1) p0b).cells; obtain ⟨f02, f03, _, _⟩ := (Bx.below (X8.out.2.1) p0b).cells; obtain ⟨f04, f05, _, _⟩ := (Bx.below (X8.out.2.2) p0b).cells)))
  all_goals
    have z0 := kD.trans (p0b.mono kD.size)
    have z1 := z0.trans (q0b.mono z0.size)
    have z2 := z1.trans (p1b.mono z1.size)
    have z3 := z2.trans (q1b.mono z2.size)
    have z4 := z3.trans (p2b.mono z3.size)
    have z5 := z4.trans (q2b.mono z4.size)
    have k := z5
    go_wp2_with fail
    refine (PowMod_yes 2 0 1 (by omega) (by omega) (by omega) (by omega) _).mono ?_
    rintro e w91 ⟨rfl, rfl⟩
    rw [ex_pow]
    go_wp2_with fail
    refine (PowMod_no 2 3 0 (by omega) _).mono ?_
    rintro e w92 ⟨rfl, rfl⟩
    go_wp2_with fail
    refine (InvMod_any 2 4 (by omega) (by omega) (by omega) _).mono ?_
    rintro e w93 ⟨rfl, hq⟩
    rw [ex_inv1]
    have k := k.trans (hq.below (B := w.heap.size))
    clear hq
    go_wp2_with fail
    refine (InvMod_any 0 1 (by omega) (by omega) (by omega) _).mono ?_
    rintro e w94 ⟨rfl, hq⟩
    rw [ex_inv2]
    have k := k.trans (hq.below (B := w.heap.size))
    clear hq
    go_wp2_with fail
    refine (Prime_yes 1 (by omega) _).mono ?_
    rintro e w95 ⟨rfl, rfl⟩
    rw [ex_pr1]
    go_wp2_with fail
    refine (Prime_yes 1048573 (by omega) _).mono ?_
    rintro e w96 ⟨rfl, rfl⟩
    rw [ex_pr2]
    go_wp2_with fail
    refine (Prime_no 1048576 (by omega) _).mono ?_
    rintro e w97 ⟨rfl, rfl⟩
    go_wp2_with fail
    refine (CheckGroup_any 23 11 1 (by omega) (by omega) (by omega) _).mono ?_
    rintro e w98 ⟨rfl, b98⟩
    rw [ex_g1]
    have k := k.trans (b98.mono k.size)
    go_wp2_with fail
    refine (CheckGroup_any 23 22 5 (by omega) (by omega) (by omega) _).mono ?_
    rintro e w99 ⟨rfl, b99⟩
    rw [ex_g2]
    have k := k.trans (b99.mono k.size)
    go_wp2_with fail
    go_ret
    exact ⟨rfl, k⟩
end Go.Proofs.Ytphaojdfeojpeaa
