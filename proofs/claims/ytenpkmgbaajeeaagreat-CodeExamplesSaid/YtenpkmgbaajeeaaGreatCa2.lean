/-
  Lemmas and contracts, joined.
-/
import Derived.Deep.RegionHeld3
import Derived.Test.YtenpkmgbaajeeaaGreatCa1
import Derived.Test.YtenpkmgbaajeeaaGreatCn4
set_option linter.unusedSimpArgs false
set_option linter.unusedVariables false
set_option linter.unnecessarySimpa false
/- The laws' examples: alive. -/
namespace Go.Proofs.YtenpkmgbaajeeaaGreat
open Go.RowKit
set_option linter.unusedVariables false
set_option linter.unusedSimpArgs false

theorem frac_nr {W w' : World} {v : Value} {r : List Nat × List Nat} (h : FracNew W w' v r) : ∃ X x Z z, v = .agg #[.slice X r.1.length x, .slice Z r.2.length z] ∧ NR w' X x r.1 ∧ NR w' Z z r.2 ∧ Below W.heap.size W w' := by
  obtain ⟨X, x, Z, z, rfl, h1, h2, _, hb⟩ := h
  exact ⟨X, x, Z, z, rfl, h1.nr_, h2.nr_, hb⟩
theorem ints_lit2 (w : World) (a b : List Int) {na nb : Nat} (ha : a.length = na) (hb : b.length = nb) (hna : na ≤ 1000) (hnb : nb ≤ 1000) (h1 : ∀ x ∈ a, -1000 ≤ x ∧ x ≤ 1000) (h2 : ∀ x ∈ b, -1000 ≤ x ∧ x ≤ 1000) {W : World} (hW : W = (w.alloc (.cells (cellsI a).toArray 3)).alloc (.cells (cellsI b).toArray 3)) :
    IR W (some ⟨w.heap.size, 0, none⟩) na a ∧ IR W (some ⟨w.heap.size + 1, 0, none⟩) nb b ∧ Below w.heap.size w W := by
  have d2 : Below (w.alloc (.cells (cellsI a).toArray 3)).heap.size (w.alloc (.cells (cellsI a).toArray 3)) W := by rw [hW]; exact alloc_bel _ _
  refine ⟨((OI.lit 0 w a (Nat.zero_le _) (by omega) ha).ir (by omega) (fun x hx => by have := h1 x hx; omega)).below d2, ?_, bel_on (alloc_bel _ _) d2⟩
  have h3 := (OI.lit 0 (w.alloc (.cells (cellsI a).toArray 3)) b (Nat.zero_le _) (by omega) hb).ir (by omega) (fun x hx => by have := h2 x hx; omega)
  rw [← hW] at h3
  simpa using h3
theorem ints_lit1 (w : World) (a : List Int) {na : Nat} (ha : a.length = na) (hna : na ≤ 1000) (h1 : ∀ x ∈ a, -1000 ≤ x ∧ x ≤ 1000) {W : World} (hW : W = w.alloc (.cells (cellsI a).toArray 3)) : IR W (some ⟨w.heap.size, 0, none⟩) na a ∧ Below w.heap.size w W := by
  rw [hW]
  exact ⟨(OI.lit 0 w a (Nat.zero_le _) (by omega) ha).ir (by omega) (fun x hx => by have := h1 x hx; omega), alloc_bel _ _⟩
theorem bytes_lit1 (w : World) (a : List UInt8) {na : Nat} (ha : a.length = na) (hna : na ≤ 1000) {W : World} (hW : W = w.alloc (.cells (cellsB a).toArray 5)) : BR W (some ⟨w.heap.size, 0, none⟩) na a ∧ Below w.heap.size w W := by
  rw [hW]
  exact ⟨(Blk.ob (B := 0) (n := na) (Blk.new _ _ _) (Nat.zero_le _) ha rfl (by omega) : OB 0 _ (some ⟨w.heap.size, 0, none⟩) na a).br (by omega), alloc_bel _ _⟩
theorem bytes_lit2 (w : World) (a b : List UInt8) {na nb : Nat} (ha : a.length = na) (hb : b.length = nb) (hna : na ≤ 1000) (hnb : nb ≤ 1000) {W : World} (hW : W = (w.alloc (.cells (cellsB a).toArray 5)).alloc (.cells (cellsB b).toArray 5)) :
    BR W (some ⟨w.heap.size, 0, none⟩) na a ∧ BR W (some ⟨w.heap.size + 1, 0, none⟩) nb b ∧ Below w.heap.size w W := by
  obtain ⟨h1, h2⟩ := bytes_lit1 w a ha hna rfl
  obtain ⟨h3, h4⟩ := bytes_lit1 (w.alloc (.cells (cellsB a).toArray 5)) b hb hnb hW
  exact ⟨h1.below h4, by simpa using h3, bel_on h2 h4⟩

set_option maxHeartbeats 8000000 in
set_option maxRecDepth 1000000 in
theorem alive_any (w : World) : Calls Tryz.prog 42 #[] w fun e w' => e = .returned (.bool true) ∧ Below w.heap.size w w' := by
  have mixed : Tryz.prog.follows Departure.mixedOrders = true := by kernel_rfl
  obtain ⟨a1, ha1⟩ : ∃ W, W = w.alloc (.cells #[.int .u8 0, .int .u8 1, .int .u8 1] 5) := ⟨_, rfl⟩
  obtain ⟨b1, hb1⟩ : ∃ W, W = a1.alloc (.cells #[.int .u8 0, .int .u8 0, .int .u8 1] 5) := ⟨_, rfl⟩
  obtain ⟨d1, hd1⟩ : ∃ W, W = (b1.alloc (.cells #[.slice (some ⟨w.heap.size, 0, none⟩) 3 3, .slice (some ⟨a1.heap.size, 0, none⟩) 3 3] 30)).alloc (.cells #[.int .u8 0, .int .u8 2, .int .u8 1] 5) := ⟨_, rfl⟩
  have F1 := Lib.hid (words_lit w [0, 2, 1] (n := 3) rfl (by omega) ha1 hb1 hd1)
  have HA1 := Lib.hid ha1
  have HB1 := Lib.hid hb1
  have HD1 := Lib.hid hd1
  have HF1 : Hid (∀ r, feasS [[0, 1, 1], [0, 0, 1]] [0, 2, 1] = r → Calls Tryz.prog 45 #[.slice (some ⟨b1.heap.size, 0, none⟩) 2 2, .slice (some ⟨b1.heap.size + 1, 0, none⟩) 3 3] d1 fun e w' => e = .returned (.tuple #[.bool r.1, .int .i64 r.2]) ∧ Below d1.heap.size d1 w') := fun r hr => by
    obtain ⟨f1, f2, f3⟩ := F1.out
    have := Feasible_any (some ⟨b1.heap.size, 0, none⟩) 2 _ (some ⟨b1.heap.size + 1, 0, none⟩) 3 [0, 2, 1] d1 (n := 2) (m := 3) rfl rfl f1 f2
    rw [← hr]
    exact this
  clear ha1 hb1 hd1
  go_enter Tryz.func42, Tryz.ntmps42
  go_wp2_with (first
    | (rw [← HA1.out])
    | (rw [← HB1.out])
    | (rw [← HD1.out]))
  refine (HF1.out _ val_feas1).mono ?_
  rintro e w1 ⟨rfl, hb1⟩
  have K1 : Hid (Below w.heap.size w w1) := bel_on F1.out.2.2 hb1
  obtain ⟨a2, ha2⟩ : ∃ W, W = w1.alloc (.cells #[.int .u8 0, .int .u8 1, .int .u8 1] 5) := ⟨_, rfl⟩
  obtain ⟨b2, hb2⟩ : ∃ W, W = a2.alloc (.cells #[.int .u8 0, .int .u8 0, .int .u8 1] 5) := ⟨_, rfl⟩
  obtain ⟨d2, hd2⟩ : ∃ W, W = (b2.alloc (.cells #[.slice (some ⟨w1.heap.size, 0, none⟩) 3 3, .slice (some ⟨a2.heap.size, 0, none⟩) 3 3] 30)).alloc (.cells #[.int .u8 1, .int .u8 0, .int .u8 1] 5) := ⟨_, rfl⟩
  have F2 := Lib.hid (words_lit w1 [1, 0, 1] (n := 3) rfl (by omega) ha2 hb2 hd2)
  have HA2 := Lib.hid ha2
  have HB2 := Lib.hid hb2
  have HD2 := Lib.hid hd2
  have HF2 : Hid (∀ r, feasS [[0, 1, 1], [0, 0, 1]] [1, 0, 1] = r → Calls Tryz.prog 45 #[.slice (some ⟨b2.heap.size, 0, none⟩) 2 2, .slice (some ⟨b2.heap.size + 1, 0, none⟩) 3 3] d2 fun e w' => e = .returned (.tuple #[.bool r.1, .int .i64 r.2]) ∧ Below d2.heap.size d2 w') := fun r hr => by
    obtain ⟨f1, f2, f3⟩ := F2.out
    have := Feasible_any (some ⟨b2.heap.size, 0, none⟩) 2 _ (some ⟨b2.heap.size + 1, 0, none⟩) 3 [1, 0, 1] d2 (n := 2) (m := 3) rfl rfl f1 f2
    rw [← hr]
    exact this
  clear ha2 hb2 hd2 hb1 HA1 HB1 HD1 F1 HF1
  go_wp2_with (first
    | (rw [← HA2.out])
    | (rw [← HB2.out])
    | (rw [← HD2.out]))
  refine (HF2.out _ val_feas2).mono ?_
  rintro e w2 ⟨rfl, hb2⟩
  have K2 : Hid (Below w.heap.size w w2) := bel_on K1.out (bel_on F2.out.2.2 hb2)
  clear hb2 HA2 HB2 HD2 F2 HF2
  have HT : Hid (∀ W, Calls Tryz.prog 55 #[.int .i64 2, .int .i64 2, .int .i64 1] W fun e w' => ∃ X x' Z z, e = .returned (.tuple #[.agg #[.slice X (lowS 5 6).1.length x', .slice Z (lowS 5 6).2.length z], .int .i64 0]) ∧ NR w' X x' (lowS 5 6).1 ∧ NR w' Z z (lowS 5 6).2 ∧ Below W.heap.size W w') := fun W => (Tail_any 2 2 1 W).mono fun e w' h => by
    rw [val_tail] at h
    obtain ⟨v, rfl, h⟩ := h
    obtain ⟨X, x, Z, z, rfl, g⟩ := frac_nr h
    exact ⟨X, x, Z, z, rfl, g⟩
  have HIS1 : Hid (∀ X cx Z cz W, NR W X cx (lowS 5 6).1 → NR W Z cz (lowS 5 6).2 → Calls Tryz.prog 48 #[.agg #[.slice X (lowS 5 6).1.length cx, .slice Z (lowS 5 6).2.length cz], .int .i64 0, .int .u64 5, .int .u64 6] W fun e w' => e = .returned (.bool true) ∧ Below W.heap.size W w') := fun X cx Z cz W g1 g2 => by
    have := is_any X cx _ Z cz _ 0 5 6 W rfl rfl g1 g2 (by omega) (by omega) (by omega)
    rwa [val_is1] at this
  obtain ⟨l1, hl1⟩ : ∃ q, (lowS 5 6).1.length = q := ⟨_, rfl⟩
  obtain ⟨l2, hl2⟩ : ∃ q, (lowS 5 6).2.length = q := ⟨_, rfl⟩
  rw [hl1, hl2] at HT HIS1
  generalize lowS 5 6 = q56 at HT HIS1
  clear hl1 hl2
  go_wp2_with fail
  refine (HT.out _).mono ?_
  rintro e w3 ⟨X3, x3, Z3, z3, rfl, gx3, gz3, hb3⟩
  obtain ⟨w4, hw4⟩ : ∃ W, W = w3.alloc (.cells #[.slice X3 l1 x3, .slice Z3 l2 z3] 27) := ⟨_, rfl⟩
  have d4 : Below w3.heap.size w3 w4 := by rw [hw4]; exact alloc_bel _ _
  have K4 : Hid (Below w.heap.size w w4) := bel_on K2.out (bel_on hb3 d4)
  have T4 : Hid (Blk w4 w3.heap.size 27 #[.slice X3 l1 x3, .slice Z3 l2 z3]) := by unfold Hid; rw [hw4]; exact Blk.new _ _ _
  have GX4 := Lib.hid (gx3.below d4)
  have GZ4 := Lib.hid (gz3.below d4)
  have HW4 := Lib.hid hw4
  clear hw4 d4 hb3 gx3 gz3 HT
  go_wp2_with (rw [← HW4.out])
  refine (three_any _).mono ?_
  rintro e w5 ⟨⟨A5, c5, B5, e5, rfl, hs5⟩, hb5⟩
  have HTH : Hid (∀ W, StOK W (threeV A5 c5 B5 e5) → Calls Tryz.prog 50 #[.agg (threeV A5 c5 B5 e5).cs.toArray, .int .i64 4] W fun e w' => e = .returned (.tuple #[.int .i64 1, .int .i64 0]) ∧ Below W.heap.size W w') := fun W g => by
    have := Threshold_any (threeV A5 c5 B5 e5) 4 W g
    rwa [val_thr] at this
  have K5 : Hid (Below w.heap.size w w5) := bel_on K4.out hb5
  have T5 := Lib.hid (T4.out.below' hb5)
  have GX5 := Lib.hid (GX4.out.below hb5)
  have GZ5 := Lib.hid (GZ4.out.below hb5)
  have HS5 := Lib.hid hs5
  generalize (threeV A5 c5 B5 e5).cs.toArray = cs5 at *
  clear hb5 hs5 GX4 GZ4 T4
  go_wp2_with fail
  refine (HTH.out _ HS5.out).mono ?_
  rintro e w6 ⟨rfl, hb6⟩
  have K6 : Hid (Below w.heap.size w w6) := bel_on K5.out hb6
  have T6 := Lib.hid (T5.out.below' hb6)
  have GX6 := Lib.hid (GX5.out.below hb6)
  have GZ6 := Lib.hid (GZ5.out.below hb6)
  have q0 := T6.out.cell 0
  have q1 := T6.out.cell 1
  clear hb6 GX5 GZ5 T5 HS5 HTH
  go_wp2_with fail
  refine (HIS1.out _ _ _ _ _ GX6.out GZ6.out).mono ?_
  rintro e w7 ⟨rfl, hb7⟩
  have K7 : Hid (Below w.heap.size w w7) := bel_on K6.out hb7
  clear hb7 q0 q1 T6 GX6 GZ6 HIS1
  go_wp2_with fail
  refine (three_any _).mono ?_
  rintro e w8 ⟨⟨A8, c8, B8, e8, rfl, hs8⟩, hb8⟩
  obtain ⟨w9, hw9⟩ : ∃ W, W = (w8.alloc (.cells #[.int .i64 0, .int .i64 2] 3)).alloc (.cells #[.int .i64 1] 3) := ⟨_, rfl⟩
  obtain ⟨i1, i2, d9⟩ := ints_lit2 w8 [0, 2] [1] (na := 2) (nb := 1) rfl rfl (by omega) (by omega) (by simp) (by simp) hw9
  have K9 : Hid (Below w.heap.size w w9) := bel_on K7.out (bel_on hb8 d9)
  have HNM : Hid (Calls Tryz.prog 59 #[.agg (threeV A8 c8 B8 e8).cs.toArray, .slice (some ⟨w8.heap.size, 0, none⟩) 2 2, .slice (some ⟨w8.heap.size + 1, 0, none⟩) 1 1] w9 fun e w' => e = .returned (.bool true) ∧ Below w9.heap.size w9 w') := by
    have := lawNames_any (threeV A8 c8 B8 e8) (some ⟨w8.heap.size, 0, none⟩) 2 [0, 2] (some ⟨w8.heap.size + 1, 0, none⟩) 1 [1] w9 (hs8.below d9) (val_ok _ _ _ _) (mw := 2) (nq := 1) rfl rfl rfl (fun b hb => by
      have hb2 : b = 0 ∨ b = 1 := by omega
      rcases hb2 with rfl | rfl <;> simp [threeV]) i1 i2
    rwa [val_nm] at this
  have HW9 := Lib.hid hw9
  generalize (threeV A8 c8 B8 e8).cs.toArray = cs8 at *
  clear hw9 i1 i2 d9 hb8 hs8
  go_wp2_with (rw [← HW9.out])
  refine HNM.out.mono ?_
  rintro e w10 ⟨rfl, hb10⟩
  have K10 : Hid (Below w.heap.size w w10) := bel_on K9.out hb10
  clear hb10 HNM HW9
  go_wp2_with fail
  refine (four_any _).mono ?_
  rintro e w11 ⟨⟨A11, c11, rfl, hi11⟩, hb11⟩
  obtain ⟨w12, hw12⟩ : ∃ W, W = (w11.alloc (.cells #[.int .u8 1, .int .u8 0] 5)).alloc (.cells #[.int .u8 1, .int .u8 1] 5) := ⟨_, rfl⟩
  obtain ⟨i1, i2, d12⟩ := bytes_lit2 w11 [1, 0] [1, 1] (na := 2) (nb := 2) rfl rfl (by omega) (by omega) hw12
  have K12 : Hid (Below w.heap.size w w12) := bel_on K10.out (bel_on hb11 d12)
  have HSC : Hid (Calls Tryz.prog 47 #[.agg (scC 2 4 A11 2 c11 zeroK).toArray, .slice (some ⟨w11.heap.size, 0, none⟩) 2 2, .slice (some ⟨w11.heap.size + 1, 0, none⟩) 2 2] w12 fun e w' => e = .returned (.tuple #[.int .i64 1, .int .i64 0]) ∧ Below w12.heap.size w12 w') := by
    have := Score_any 2 4 A11 c11 [1, 2] zeroK (some ⟨w11.heap.size, 0, none⟩) 2 [1, 0] (some ⟨w11.heap.size + 1, 0, none⟩) 2 [1, 1] w12 (n := 2) (nv := 2) (ny := 2) rfl rfl rfl (hi11.below d12) i1 i2 rfl
    rwa [val_score] at this
  have HW12 := Lib.hid hw12
  generalize (scC 2 4 A11 2 c11 zeroK).toArray = cs11 at *
  clear hw12 i1 i2 d12 hb11 hi11
  go_wp2_with (rw [← HW12.out])
  refine HSC.out.mono ?_
  rintro e w13 ⟨rfl, hb13⟩
  have K13 : Hid (Below w.heap.size w w13) := bel_on K12.out hb13
  clear hb13 HSC HW12
  go_wp2_with fail
  refine (four_any _).mono ?_
  rintro e w14 ⟨⟨A14, c14, rfl, hi14⟩, hb14⟩
  obtain ⟨w15, hw15⟩ : ∃ W, W = w14.alloc (.cells #[.int .u8 1, .int .u8 1] 5) := ⟨_, rfl⟩
  obtain ⟨i1, d15⟩ := bytes_lit1 w14 [1, 1] (na := 2) rfl (by omega) hw15
  have K15 : Hid (Below w.heap.size w w15) := bel_on K13.out (bel_on hb14 d15)
  have HCH : Hid (Calls Tryz.prog 28 #[.agg (scC 2 4 A14 2 c14 zeroK).toArray, .slice (some ⟨w14.heap.size, 0, none⟩) 2 2, .int .i64 1] w15 fun e w' => ∃ X x' Z z, e = .returned (.tuple #[.agg #[.slice X (lowS 5 8).1.length x', .slice Z (lowS 5 8).2.length z], .int .i64 0]) ∧ NR w' X x' (lowS 5 8).1 ∧ NR w' Z z (lowS 5 8).2 ∧ Below w15.heap.size w15 w') := by
    refine (Chance_any 2 4 A14 c14 [1, 2] zeroK (some ⟨w14.heap.size, 0, none⟩) 2 [1, 1] 1 w15 (n := 2) (ny := 2) rfl rfl (hi14.below d15) i1 rfl).mono fun e w' h => ?_
    rw [val_chance] at h
    obtain ⟨v, rfl, h⟩ := h
    obtain ⟨X, x, Z, z, rfl, g⟩ := frac_nr h
    exact ⟨X, x, Z, z, rfl, g⟩
  have HIS2 : Hid (∀ X cx Z cz W, NR W X cx (lowS 5 8).1 → NR W Z cz (lowS 5 8).2 → Calls Tryz.prog 48 #[.agg #[.slice X (lowS 5 8).1.length cx, .slice Z (lowS 5 8).2.length cz], .int .i64 0, .int .u64 5, .int .u64 8] W fun e w' => e = .returned (.bool true) ∧ Below W.heap.size W w') := fun X cx Z cz W g1 g2 => by
    have := is_any X cx _ Z cz _ 0 5 8 W rfl rfl g1 g2 (by omega) (by omega) (by omega)
    rwa [val_is2] at this
  obtain ⟨m1, hm1⟩ : ∃ q, (lowS 5 8).1.length = q := ⟨_, rfl⟩
  obtain ⟨m2, hm2⟩ : ∃ q, (lowS 5 8).2.length = q := ⟨_, rfl⟩
  rw [hm1, hm2] at HCH HIS2
  generalize lowS 5 8 = q58 at HCH HIS2
  have HW15 := Lib.hid hw15
  generalize (scC 2 4 A14 2 c14 zeroK).toArray = cs14 at *
  clear hw15 i1 d15 hb14 hi14 hm1 hm2
  go_wp2_with (rw [← HW15.out])
  refine HCH.out.mono ?_
  rintro e w16 ⟨X16, x16, Z16, z16, rfl, gx16, gz16, hb16⟩
  obtain ⟨w17, hw17⟩ : ∃ W, W = w16.alloc (.cells #[.slice X16 m1 x16, .slice Z16 m2 z16] 27) := ⟨_, rfl⟩
  have d17 : Below w16.heap.size w16 w17 := by rw [hw17]; exact alloc_bel _ _
  have K17 : Hid (Below w.heap.size w w17) := bel_on K15.out (bel_on hb16 d17)
  have T17 : Hid (Blk w17 w16.heap.size 27 #[.slice X16 m1 x16, .slice Z16 m2 z16]) := by unfold Hid; rw [hw17]; exact Blk.new _ _ _
  have GX17 := Lib.hid (gx16.below d17)
  have GZ17 := Lib.hid (gz16.below d17)
  have HW17 := Lib.hid hw17
  clear hw17 d17 hb16 gx16 gz16 HCH HW15
  go_wp2_with (rw [← HW17.out])
  refine (four_any _).mono ?_
  rintro e w18 ⟨⟨A18, c18, rfl, hi18⟩, hb18⟩
  obtain ⟨w19, hw19⟩ : ∃ W, W = w18.alloc (.cells #[.int .u8 1, .int .u8 1] 5) := ⟨_, rfl⟩
  obtain ⟨i1, d19⟩ := bytes_lit1 w18 [1, 1] (na := 2) rfl (by omega) hw19
  have K19 : Hid (Below w.heap.size w w19) := bel_on K17.out (bel_on hb18 d19)
  have k1819 := bel_on hb18 d19
  have T19 := Lib.hid (T17.out.below' k1819)
  have GX19 := Lib.hid (GX17.out.below k1819)
  have GZ19 := Lib.hid (GZ17.out.below k1819)
  have HI19 := Lib.hid (hi18.below d19)
  have HY19 := Lib.hid i1
  have HR8 : Hid (∀ W, Calls Tryz.prog 60 #[.int .u64 1, .int .u64 8] W fun e w' => ∃ X x' Z z, e = .returned (.agg #[.slice X (lowS 1 8).1.length x', .slice Z (lowS 1 8).2.length z]) ∧ NR w' X x' (lowS 1 8).1 ∧ NR w' Z z (lowS 1 8).2 ∧ Below W.heap.size W w') := fun W => (ratio_any 1 8 W (by omega) (by omega) (by omega)).mono fun e w' ⟨v, he, hf⟩ => by
    obtain ⟨X, x, Z, z, rfl, g⟩ := frac_nr hf
    exact ⟨X, x, Z, z, he, g⟩
  have HBD : Hid (∀ X x' Z z W, IR W A18 c18 [1, 2] → BR W (some ⟨w18.heap.size, 0, none⟩) 2 [1, 1] → NR W X x' (lowS 1 8).1 → NR W Z z (lowS 1 8).2 → Calls Tryz.prog 31 #[.agg (scC 2 4 A18 2 c18 zeroK).toArray, .slice (some ⟨w18.heap.size, 0, none⟩) 2 2, .agg #[.slice X (lowS 1 8).1.length x', .slice Z (lowS 1 8).2.length z]] W fun e w' => e = .returned (.tuple #[.int .i64 2, .int .i64 0]) ∧ Below W.heap.size W w') := fun X x' Z z W g1 g2 g3 g4 => by
    have := Bound_any 2 4 A18 c18 [1, 2] zeroK (some ⟨w18.heap.size, 0, none⟩) 2 [1, 1] X x' (lowS 1 8).1 Z z (lowS 1 8).2 W (n := 2) (ny := 2) rfl rfl rfl rfl g1 g2 rfl g3 g4
    rwa [val_bound] at this
  obtain ⟨n1, hn1⟩ : ∃ q, (lowS 1 8).1.length = q := ⟨_, rfl⟩
  obtain ⟨n2, hn2⟩ : ∃ q, (lowS 1 8).2.length = q := ⟨_, rfl⟩
  rw [hn1, hn2] at HR8 HBD
  generalize lowS 1 8 = q18 at HR8 HBD
  have HW19 := Lib.hid hw19
  generalize (scC 2 4 A18 2 c18 zeroK).toArray = cs18 at *
  clear hw19 i1 d19 hb18 hi18 hn1 hn2 k1819 GX17 GZ17 T17 HW17
  go_wp2_with (rw [← HW19.out])
  refine (HR8.out _).mono ?_
  rintro e w20 ⟨X20, x20, Z20, z20, rfl, gx20, gz20, hb20⟩
  have K20 : Hid (Below w.heap.size w w20) := bel_on K19.out hb20
  have T20 := Lib.hid (T19.out.below' hb20)
  have GX20 := Lib.hid (GX19.out.below hb20)
  have GZ20 := Lib.hid (GZ19.out.below hb20)
  have HI20 := Lib.hid (HI19.out.below hb20)
  have HY20 := Lib.hid (HY19.out.below hb20)
  have HGX := Lib.hid gx20
  have HGZ := Lib.hid gz20
  clear hb20 gx20 gz20 HR8 T19 GX19 GZ19 HI19 HY19 HW19
  go_wp2_with fail
  refine (HBD.out _ _ _ _ _ HI20.out HY20.out HGX.out HGZ.out).mono ?_
  rintro e w21 ⟨rfl, hb21⟩
  have K21 : Hid (Below w.heap.size w w21) := bel_on K20.out hb21
  have T21 := Lib.hid (T20.out.below' hb21)
  have GX21 := Lib.hid (GX20.out.below hb21)
  have GZ21 := Lib.hid (GZ20.out.below hb21)
  have q0 := T21.out.cell 0
  have q1 := T21.out.cell 1
  clear hb21 HBD HGX HGZ
  go_wp2_with fail
  refine (HIS2.out _ _ _ _ _ GX21.out GZ21.out).mono ?_
  rintro e w22 ⟨rfl, hb22⟩
  have K22 : Hid (Below w.heap.size w w22) := bel_on K21.out hb22
  clear hb22 q0 q1
  go_wp2_with fail
  go_ret
  exact ⟨by simp, K22.out⟩
end Go.Proofs.YtenpkmgbaajeeaaGreat

/- Comparisons, sums and products of fractions: the program's and the reference's. -/
namespace Go.Proofs.YtenpkmgbaajeeaaGreat
open Go.RowKit
set_option linter.unusedVariables false

def bothF (a b c d : List Nat) : Bool := vfB a b && vfB c d
def cmpFS (a b c d : List Nat) : Int × Int := if bothF a b c d = true then (cmpN (val a * val d) (val c * val b), 0) else (0, 8)
def bndS (r : List Nat × List Nat) : (List Nat × List Nat) × Int := if r.1.length ≤ 16 ∧ r.2.length ≤ 16 then (r, 0) else (([], []), 4)
def addFS (a b c d : List Nat) : (List Nat × List Nat) × Int := if bothF a b c d = true then bndS (lowS (val a * val d + val c * val b) (val b * val d)) else (([], []), 8)
def mulFS (a b c d : List Nat) : (List Nat × List Nat) × Int := if bothF a b c d = true then bndS (lowS (val a * val c) (val b * val d)) else (([], []), 8)
theorem bothF_ways (a b c d : List Nat) : (vfB a b = false ∧ bothF a b c d = false) ∨ (vfB a b = true ∧ vfB c d = false ∧ bothF a b c d = false) ∨ (vfB a b = true ∧ vfB c d = true ∧ bothF a b c d = true) := by
  unfold bothF
  cases h : vfB a b
  · exact .inl ⟨rfl, rfl⟩
  · cases h2 : vfB c d
    · exact .inr (.inl ⟨rfl, rfl, rfl⟩)
    · exact .inr (.inr ⟨rfl, rfl, rfl⟩)
theorem vf_parts {a b : List Nat} (h : vfB a b = true) : (a.length ≤ 16 ∧ b.length ≤ 16) ∧ (Trm a ∧ Trm b) ∧ b ≠ [] := by
  rcases vf_ways a b with ⟨_, e⟩ | ⟨_, _, e⟩ | ⟨_, _, _, e⟩ | ⟨h1, h2, _, _⟩
  · rw [e] at h; cases h
  · rw [e] at h; cases h
  · rw [e] at h; cases h
  · obtain ⟨v1, v2⟩ := bothB_parts h1
    obtain ⟨a1, a2⟩ := validB_iff.1 v1
    obtain ⟨b1, b2⟩ := validB_iff.1 v2
    exact ⟨⟨a1, b1⟩, ⟨a2, b2⟩, h2⟩
theorem cfS_yes {a b : List Nat} (h : vfB a b = true) : cfS a b = 0 := by rw [cfS, h]; rfl
theorem cfS_no {a b : List Nat} (h : vfB a b = false) : cfS a b = 8 := by rw [cfS, h]; rfl
theorem times_len {x y : List Nat} {p q : Nat} (hx : Dig x) (hy : Dig y) (lx : x.length ≤ p) (ly : y.length ≤ q) : (digs (val x * val y)).length ≤ p + q := by
  refine digs_len_le ?_
  rw [Nat.pow_add]
  have h1 := Nat.lt_of_lt_of_le (val_lt hx) (Nat.pow_le_pow_right (show 0 < 4294967296 by omega) lx)
  have h2 := Nat.lt_of_lt_of_le (val_lt hy) (Nat.pow_le_pow_right (show 0 < 4294967296 by omega) ly)
  exact Nat.mul_lt_mul'' h1 h2
theorem plus_len {x y p : Nat} (h1 : (digs x).length ≤ p) (h2 : (digs y).length ≤ p) : (digs (x + y)).length ≤ p + 1 := by
  refine digs_len_le ?_
  have := lt_of_digs_len h1
  have := lt_of_digs_len h2
  rw [Nat.pow_succ]
  omega
theorem val_ne_of {b : List Nat} (hb : Trm b) (h : b ≠ []) : val b ≠ 0 := by have := val_pos hb h; omega

/-- Two fractions of the call's own. -/
def Fr2 (W : World) (g : Nat) (u0 u1 v0 v1 : Value) : Prop := Bx W g u0 u1 ∧ Bx W (g + 1) v0 v1
theorem Fr2.below {w w' : World} {g : Nat} {u0 u1 v0 v1 : Value} (h : Fr2 w g u0 u1 v0 v1) (k : Below w.heap.size w w') : Fr2 w' g u0 u1 v0 v1 := ⟨h.1.below k, h.2.below k⟩
theorem Fr2.new (w : World) (u0 u1 v0 v1 : Value) : Fr2 ((w.alloc (.cells #[u0, u1] 27)).alloc (.cells #[v0, v1] 27)) w.heap.size u0 u1 v0 v1 := by
  refine ⟨(Bx.new _ _ _).below (alloc_below _ _), ?_⟩
  have := Bx.new (w.alloc (.cells #[u0, u1] 27)) v0 v1
  rw [World.size_alloc] at this
  exact this
theorem Fr2.cells {w : World} {g : Nat} {u0 u1 v0 v1 : Value} (h : Fr2 w g u0 u1 v0 v1) : w.cell? ⟨g, 0, none⟩ = some u0 ∧ w.cell? ⟨g, 1, none⟩ = some u1 ∧ w.cell? ⟨g + 1, 0, none⟩ = some v0 ∧ w.cell? ⟨g + 1, 1, none⟩ = some v1 := by
  obtain ⟨a, b, _, _⟩ := h.1.cells
  obtain ⟨c, d, _, _⟩ := h.2.cells
  exact ⟨a, b, c, d⟩
theorem Fr2.lt {w : World} {g : Nat} {u0 u1 v0 v1 : Value} (h : Fr2 w g u0 u1 v0 v1) : g + 1 < w.heap.size := h.2.lt

set_option maxHeartbeats 4000000 in
set_option maxRecDepth 100000 in
theorem cross_int_any (A : Option Addr) (ca : Nat) (a : List Nat) (Bd : Option Addr) (cb : Nat) (b : List Nat) (C : Option Addr) (cc : Nat) (c : List Nat) (D : Option Addr) (cd : Nat) (d : List Nat) (w : World) {na nb nc nd : Nat} (hna : a.length = na) (hnb : b.length = nb) (hnc : c.length = nc) (hnd : d.length = nd)
    (ha : NR w A ca a) (hb : NR w Bd cb b) (hc : NR w C cc c) (hd : NR w D cd d) :
    Calls Tryz.prog 104 #[.agg #[.slice A na ca, .slice Bd nb cb], .agg #[.slice C nc cc, .slice D nd cd], .func (.func 105) #[] #[]] w fun e w' => Int2 w w' e (cmpFS a b c d) := by
  have Ha := Lib.hid hna
  have Hb := Lib.hid hnb
  have Hc := Lib.hid hnc
  have Hd := Lib.hid hnd
  obtain ⟨W, hW⟩ : ∃ W : World, W = (w.alloc (.cells #[.slice A na ca, .slice Bd nb cb] 27)).alloc (.cells #[.slice C nc cc, .slice D nd cd] 27) := ⟨_, rfl⟩
  have bW : Below w.heap.size w W := by rw [hW]; exact (alloc_below _ _).alloc (by simp) _
  have xW : Fr2 W w.heap.size (.slice A na ca) (.slice Bd nb cb) (.slice C nc cc) (.slice D nd cd) := by rw [hW]; exact Fr2.new _ _ _ _ _
  have Ra := Lib.hid (ha.below bW)
  have Rb := Lib.hid (hb.below bW)
  have Rc := Lib.hid (hc.below bW)
  have Rd := Lib.hid (hd.below bW)
  have XW := Lib.hid xW
  have HW := Lib.hid hW
  obtain ⟨c0, c1, c2, c3⟩ := xW.cells
  clear hna hnb hnc hnd ha hb hc hd hW xW
  rcases bothF_ways a b c d with ⟨h1, h3⟩ | ⟨h1, h2, h3⟩ | ⟨h1, h2, h3⟩
  · have H1 := Lib.hid h1
    have H3 := Lib.hid h3
    have HS : Hid (cmpFS a b c d = (0, 8)) := by unfold Hid cmpFS; rw [h3]; rfl
    clear h1 h3
    rw [HW.out] at c0 c1 c2 c3
    go_enter Tryz.func104, Tryz.ntmps104
    go_wp2_with fail
    rw [← HW.out]
    clear c0 c1 c2 c3
    refine (CheckFraction_any A ca a Bd cb b _ Ha.out Hb.out Ra.out Rb.out).mono ?_
    rintro e w1 ⟨rfl, b1⟩
    rw [cfS_no H1.out]
    have X1 := Lib.hid (XW.out.below b1)
    have k1 := bW.trans (b1.mono bW.size)
    obtain ⟨d0, d1, d2, d3⟩ := X1.out.cells
    go_wp2_with fail
    go_ret2
    exact Int2.mk' HS.out k1
  · have H1 := Lib.hid h1
    have H3 := Lib.hid h3
    have H2 := Lib.hid h2
    have HS : Hid (cmpFS a b c d = (0, 8)) := by unfold Hid cmpFS; rw [h3]; rfl
    clear h1 h3 h2
    rw [HW.out] at c0 c1 c2 c3
    go_enter Tryz.func104, Tryz.ntmps104
    go_wp2_with fail
    rw [← HW.out]
    clear c0 c1 c2 c3
    refine (CheckFraction_any A ca a Bd cb b _ Ha.out Hb.out Ra.out Rb.out).mono ?_
    rintro e w1 ⟨rfl, b1⟩
    rw [cfS_yes H1.out]
    have X1 := Lib.hid (XW.out.below b1)
    have k1 := bW.trans (b1.mono bW.size)
    obtain ⟨d0, d1, d2, d3⟩ := X1.out.cells
    have Ra1 := Lib.hid (Ra.out.below b1)
    have Rb1 := Lib.hid (Rb.out.below b1)
    have Rc1 := Lib.hid (Rc.out.below b1)
    have Rd1 := Lib.hid (Rd.out.below b1)
    clear b1
    go_wp2_with fail
    refine (CheckFraction_any C cc c D cd d _ Hc.out Hd.out Rc1.out Rd1.out).mono ?_
    rintro e w2 ⟨rfl, b2⟩
    rw [cfS_no H2.out]
    have X2 := Lib.hid (X1.out.below b2)
    have k2 := k1.trans (b2.mono k1.size)
    clear d0 d1 d2 d3
    go_wp2_with fail
    go_ret2
    exact Int2.mk' HS.out k2
  · have H1 := Lib.hid h1
    have H3 := Lib.hid h3
    have H2 := Lib.hid h2
    obtain ⟨⟨l1, l2⟩, ⟨t1, t2⟩, n1⟩ := vf_parts h1
    obtain ⟨⟨l3, l4⟩, ⟨t3, t4⟩, n2⟩ := vf_parts h2
    have L1 : na ≤ 16 := by have := Ha.out; omega
    have L2 : nb ≤ 16 := by have := Hb.out; omega
    have L3 : nc ≤ 16 := by have := Hc.out; omega
    have L4 : nd ≤ 16 := by have := Hd.out; omega
    have M1 : Hid ((digs (val a * val d)).length ≤ 32) := times_len Ra.out.dig Rd.out.dig l1 l4
    have M2 : Hid ((digs (val c * val b)).length ≤ 32) := times_len Rc.out.dig Rb.out.dig l3 l2
    have M3 : Hid ((digs (val b * val d)).length ≤ 32) := times_len Rb.out.dig Rd.out.dig l2 l4
    have M4 : Hid ((digs (val a * val c)).length ≤ 32) := times_len Ra.out.dig Rc.out.dig l1 l3
    have M5 : Hid (digs (val b * val d) ≠ []) := digs_ne (Nat.mul_ne_zero (val_ne_of t2 n1) (val_ne_of t4 n2))
    have M6 : Hid ((digs (val a * val d + val c * val b)).length ≤ 33) := plus_len M1.out M2.out
    have HS : Hid (cmpFS a b c d = (cmpN (val a * val d) (val c * val b), 0)) := by unfold Hid cmpFS; rw [h3]; rfl
    clear l1 l2 l3 l4 t1 t2 t3 t4 n1 n2
    clear h1 h3 h2
    rw [HW.out] at c0 c1 c2 c3
    go_enter Tryz.func104, Tryz.ntmps104
    go_wp2_with fail
    rw [← HW.out]
    clear c0 c1 c2 c3
    refine (CheckFraction_any A ca a Bd cb b _ Ha.out Hb.out Ra.out Rb.out).mono ?_
    rintro e w1 ⟨rfl, b1⟩
    rw [cfS_yes H1.out]
    have X1 := Lib.hid (XW.out.below b1)
    have k1 := bW.trans (b1.mono bW.size)
    obtain ⟨d0, d1, d2, d3⟩ := X1.out.cells
    have Ra1 := Lib.hid (Ra.out.below b1)
    have Rb1 := Lib.hid (Rb.out.below b1)
    have Rc1 := Lib.hid (Rc.out.below b1)
    have Rd1 := Lib.hid (Rd.out.below b1)
    clear b1
    go_wp2_with fail
    refine (CheckFraction_any C cc c D cd d _ Hc.out Hd.out Rc1.out Rd1.out).mono ?_
    rintro e w2 ⟨rfl, b2⟩
    rw [cfS_yes H2.out]
    have X2 := Lib.hid (X1.out.below b2)
    have k2 := k1.trans (b2.mono k1.size)
    clear d0 d1 d2 d3
    have Ra2 := Lib.hid (Ra1.out.below b2)
    have Rb2 := Lib.hid (Rb1.out.below b2)
    have Rc2 := Lib.hid (Rc1.out.below b2)
    have Rd2 := Lib.hid (Rd1.out.below b2)
    clear b2 Ra1 Rb1 Rc1 Rd1 X1
    obtain ⟨e0, e1, e2, e3⟩ := (show Fr2 w2.drew w.heap.size (.slice A na ca) (.slice Bd nb cb) (.slice C nc cc) (.slice D nd cd) from X2.out).cells
    have XD : Hid (Fr2 w2.drew w.heap.size (.slice A na ca) (.slice Bd nb cb) (.slice C nc cc) (.slice D nd cd)) := X2.out
    have kD := k2.drew
    go_wp2_with fail
    go_region_held3 (fun w' => w'.cell? ⟨w.heap.size, 0, none⟩ = some (.slice A na ca) ∧ w'.cell? ⟨w.heap.size, 1, none⟩ = some (.slice Bd nb cb) ∧ w'.cell? ⟨w.heap.size + 1, 0, none⟩ = some (.slice C nc cc) ∧ w'.cell? ⟨w.heap.size + 1, 1, none⟩ = some (.slice D nd cd)) ((first | exact ⟨n0, n1, n2, n3⟩ | exact ⟨m0, m1, m2, m3⟩ | exact ⟨l0, l1, l2, l3⟩ | exact ⟨e0, e1, e2, e3⟩)) (first
      | (go_at_call_of 117 A; go_loud (refine (times_any A ca a D cd d _ Ha.out Hd.out Ra2.out.drew Rd2.out.drew (by omega) (by omega)).mono ?_; rintro e w3 ⟨P, cP, rfl, hP, b3⟩; obtain ⟨l0, l1, l2, l3⟩ := (Fr2.below (XD.out) b3).cells))
      | (go_at_call_of 117 C; go_loud (refine (times_any C cc c Bd cb b _ Hc.out Hb.out (Rc2.out.drew.below b3) (Rb2.out.drew.below b3) (by omega) (by omega)).mono ?_; rintro e w4 ⟨Q, cQ, rfl, hQ, b4⟩; obtain ⟨m0, m1, m2, m3⟩ := (Fr2.below (Fr2.below (XD.out) b3) b4).cells))
      | (go_at_call 105; go_loud (refine (order_any P cP (digs (val a * val d)) Q cQ (digs (val c * val b)) _ rfl rfl (hP.1.below b4) hQ.1 (Trm.digs _) (Trm.digs _)).mono ?_; rintro e w5 ⟨rfl, b5⟩; rw [val_digs, val_digs]; obtain ⟨n0, n1, n2, n3⟩ := (Fr2.below (Fr2.below (Fr2.below (XD.out) b3) b4) b5).cells)))
    all_goals
      have k3 := kD.trans (b3.mono kD.size)
      have k4 := k3.trans (b4.mono k3.size)
      have k5 := k4.trans (b5.mono k4.size)
      go_wp2_with fail
      go_ret2
      exact Int2.mk' HS.out k5

set_option maxHeartbeats 1000000 in
theorem CompareFractions_any (A : Option Addr) (ca : Nat) (a : List Nat) (Bd : Option Addr) (cb : Nat) (b : List Nat) (C : Option Addr) (cc : Nat) (c : List Nat) (D : Option Addr) (cd : Nat) (d : List Nat) (w : World) {na nb nc nd : Nat} (hna : a.length = na) (hnb : b.length = nb) (hnc : c.length = nc) (hnd : d.length = nd)
    (ha : NR w A ca a) (hb : NR w Bd cb b) (hc : NR w C cc c) (hd : NR w D cd d) :
    Calls Tryz.prog 54 #[.agg #[.slice A na ca, .slice Bd nb cb], .agg #[.slice C nc cc, .slice D nd cd]] w fun e w' => Int2 w w' e (cmpFS a b c d) := by
  have Ha := Lib.hid hna
  have Hb := Lib.hid hnb
  have Hc := Lib.hid hnc
  have Hd := Lib.hid hnd
  have bW : Below w.heap.size w ((w.alloc (.cells #[.slice A na ca, .slice Bd nb cb] 27)).alloc (.cells #[.slice C nc cc, .slice D nd cd] 27)) := (alloc_below _ _).alloc (by simp) _
  obtain ⟨c0, c1, c2, c3⟩ := (Fr2.new w (.slice A na ca) (.slice Bd nb cb) (.slice C nc cc) (.slice D nd cd)).cells
  have Ra := Lib.hid (ha.below bW)
  have Rb := Lib.hid (hb.below bW)
  have Rc := Lib.hid (hc.below bW)
  have Rd := Lib.hid (hd.below bW)
  clear hna hnb hnc hnd ha hb hc hd
  go_enter Tryz.func54, Tryz.ntmps54
  go_wp2_with fail
  refine (cross_int_any A ca a Bd cb b C cc c D cd d _ Ha.out Hb.out Hc.out Hd.out Ra.out Rb.out Rc.out Rd.out).mono ?_
  rintro e w1 ⟨rfl, b1⟩
  go_wp2_with fail
  go_ret2
  exact ⟨rfl, bW.trans (b1.mono bW.size)⟩

/-- What 'bounded' hands back of a fraction. -/
def bndV (X : Option Addr) (c : Nat) (l : List Nat) (Y : Option Addr) (d : Nat) (m : List Nat) : Value := if l.length ≤ 16 ∧ m.length ≤ 16 then .agg #[.slice X l.length c, .slice Y m.length d] else .agg #[.slice none 0 0, .slice none 0 0]
theorem bnd_ways (l m : List Nat) : (l.length ≤ 16 ∧ m.length ≤ 16 ∧ bndS (l, m) = ((l, m), 0)) ∨ (¬ l.length ≤ 16 ∧ bndS (l, m) = (([], []), 4)) ∨ (l.length ≤ 16 ∧ ¬ m.length ≤ 16 ∧ bndS (l, m) = (([], []), 4)) := by
  unfold bndS
  by_cases h1 : l.length ≤ 16
  · by_cases h2 : m.length ≤ 16
    · exact .inl ⟨h1, h2, by rw [if_pos ⟨h1, h2⟩]⟩
    · exact .inr (.inr ⟨h1, h2, by rw [if_neg (fun h => h2 h.2)]⟩)
  · exact .inr (.inl ⟨h1, by rw [if_neg (fun h => h1 h.1)]⟩)
theorem FracNew.bnd {w w' : World} {X Y : Option Addr} {c d : Nat} {l m : List Nat} (hX : NF w.heap.size w' X c l) (hY : NF w.heap.size w' Y d m) (ap : Apart X l Y m) (hb : Below w.heap.size w w') : FracNew w w' (bndV X c l Y d m) (bndS (l, m)).1 := by
  unfold bndV bndS
  by_cases h : l.length ≤ 16 ∧ m.length ≤ 16
  · rw [if_pos h, if_pos h]; exact ⟨X, c, Y, d, rfl, hX, hY, ap, hb⟩
  · rw [if_neg h, if_neg h]; exact FracNew.zero hb

set_option maxHeartbeats 1000000 in
theorem bounded_any (X : Option Addr) (c : Nat) (l : List Nat) (Y : Option Addr) (d : Nat) (m : List Nat) (w : World) {n k : Nat} (hn : l.length = n) (hk : m.length = k) (hl : n ≤ 1000000) (hm : k ≤ 1000000) :
    Calls Tryz.prog 113 #[.agg #[.slice X n c, .slice Y k d], .int .i64 0] w fun e w' => e = .returned (.tuple #[bndV X c l Y d m, .int .i64 (bndS (l, m)).2]) ∧ Below w.heap.size w w' := by
  subst hn hk
  have bW : Below w.heap.size w ((w.alloc (.cells #[.slice X l.length c, .slice Y m.length d] 27)).alloc (.cells #[.slice none 0 0, .slice none 0 0] 27)) := (alloc_below _ _).alloc (by simp) _
  obtain ⟨c0, c1, c2, c3⟩ := (Fr2.new w (.slice X l.length c) (.slice Y m.length d) (.slice none 0 0) (.slice none 0 0)).cells
  obtain ⟨_, _, f0, f1⟩ := (Fr2.new w (.slice X l.length c) (.slice Y m.length d) (.slice none 0 0) (.slice none 0 0)).2.cells
  rcases bnd_ways l m with ⟨h1, h2, h3⟩ | ⟨h1, h3⟩ | ⟨h1, h2, h3⟩
  · have HS := Lib.hid h3
    have HV : Hid (bndV X c l Y d m = .agg #[.slice X l.length c, .slice Y m.length d]) := by unfold Hid bndV; rw [if_pos ⟨h1, h2⟩]
    have t1 : decide ((16 : Int) < l.length) = false := by simp; omega
    have t2 : decide ((16 : Int) < m.length) = false := by simp; omega
    clear h1 h3 h2
    go_enter Tryz.func113, Tryz.ntmps113
    go_wp2_with fail
    exact bodyPost_ret (v := .tuple #[.agg #[.slice X l.length c, .slice Y m.length d], .int .i64 0]) (by simp [results, Tryz.f113, go_sem]) rfl ⟨by rw [HV.out, HS.out], (alloc_below _ _).alloc (by simp) _⟩
  · have HS := Lib.hid h3
    have HV : Hid (bndV X c l Y d m = .agg #[.slice none 0 0, .slice none 0 0]) := by unfold Hid bndV; rw [if_neg (fun h => h1 h.1)]
    have t1 : decide ((16 : Int) < l.length) = true := by simp; omega
    clear h1 h3
    go_enter Tryz.func113, Tryz.ntmps113
    go_wp2_with fail
    exact bodyPost_ret (v := .tuple #[.agg #[.slice none 0 0, .slice none 0 0], .int .i64 4]) (by simp [results, Tryz.f113, go_sem, c2, c3]) rfl ⟨by rw [HV.out, HS.out], (alloc_below _ _).alloc (by simp) _⟩
  · have HS := Lib.hid h3
    have HV : Hid (bndV X c l Y d m = .agg #[.slice none 0 0, .slice none 0 0]) := by unfold Hid bndV; rw [if_neg (fun h => h2 h.2)]
    have t1 : decide ((16 : Int) < l.length) = false := by simp; omega
    have t2 : decide ((16 : Int) < m.length) = true := by simp; omega
    clear h1 h3 h2
    go_enter Tryz.func113, Tryz.ntmps113
    go_wp2_with fail
    exact bodyPost_ret (v := .tuple #[.agg #[.slice none 0 0, .slice none 0 0], .int .i64 4]) (by simp [results, Tryz.f113, go_sem, c2, c3]) rfl ⟨by rw [HV.out, HS.out], (alloc_below _ _).alloc (by simp) _⟩

set_option maxHeartbeats 1000000 in
theorem bounded_err (w : World) (x : Int) (hx : x ≠ 0) :
    Calls Tryz.prog 113 #[.agg #[.slice none 0 0, .slice none 0 0], .int .i64 x] w fun e w' => e = .returned (.tuple #[.agg #[.slice none 0 0, .slice none 0 0], .int .i64 x]) ∧ Below w.heap.size w w' := by
  have bW : Below w.heap.size w ((w.alloc (.cells #[.slice none 0 0, .slice none 0 0] 27)).alloc (.cells #[.slice none 0 0, .slice none 0 0] 27)) := (alloc_below _ _).alloc (by simp) _
  obtain ⟨c0, c1, c2, c3⟩ := (Fr2.new w (.slice none 0 0) (.slice none 0 0) (.slice none 0 0) (.slice none 0 0)).cells
  obtain ⟨_, _, f0, f1⟩ := (Fr2.new w (.slice none 0 0) (.slice none 0 0) (.slice none 0 0) (.slice none 0 0)).2.cells
  have t1 : (x != 0) = true := by simpa using hx
  have H := Lib.hid hx
  clear hx
  go_enter Tryz.func113, Tryz.ntmps113
  go_wp2_with fail
  exact bodyPost_ret (v := .tuple #[.agg #[.slice none 0 0, .slice none 0 0], .int .i64 x]) (by simp [results, Tryz.f113, go_sem, c2, c3]) rfl ⟨rfl, (alloc_below _ _).alloc (by simp) _⟩

end Go.Proofs.YtenpkmgbaajeeaaGreat

/- Fractions in lowest terms: compared and added, in plain words. -/
namespace Go.Proofs.YtenpkmgbaajeeaaGreat
open Go.RowKit
set_option linter.unusedVariables false

theorem lowS_scale {x y k : Nat} (hk : k ≠ 0) : lowS (x * k) (y * k) = lowS x y := by
  unfold lowS gcdN
  have hk0 : 0 < k := Nat.pos_of_ne_zero hk
  rw [Nat.gcd_mul_right, Nat.mul_div_mul_right _ _ hk0, Nat.mul_div_mul_right _ _ hk0]
theorem lowS_one {p q : Nat} (h : gcdN p q = 1) : lowS p q = (digs p, digs q) := by unfold lowS; rw [h, Nat.div_one, Nat.div_one]
theorem low_parts (x : Nat) {y : Nat} (hy : y ≠ 0) : ∃ p q g, g ≠ 0 ∧ q ≠ 0 ∧ x = p * g ∧ y = q * g ∧ gcdN p q = 1 ∧ lowS x y = (digs p, digs q) := by
  have hg : Nat.gcd x y ≠ 0 := gcdN_pos_right hy
  have h1 : x / Nat.gcd x y * Nat.gcd x y = x := Nat.div_mul_cancel (Nat.gcd_dvd_left x y)
  have h2 : y / Nat.gcd x y * Nat.gcd x y = y := Nat.div_mul_cancel (Nat.gcd_dvd_right x y)
  refine ⟨x / Nat.gcd x y, y / Nat.gcd x y, Nat.gcd x y, hg, fun e => hy ?_, h1.symm, h2.symm, ?_, rfl⟩
  · rw [← h2, e, Nat.zero_mul]
  · have h3 : Nat.gcd (x / Nat.gcd x y * Nat.gcd x y) (y / Nat.gcd x y * Nat.gcd x y) = Nat.gcd x y := by rw [h1, h2]
    rw [Nat.gcd_mul_right] at h3
    exact Nat.eq_of_mul_eq_mul_right (Nat.pos_of_ne_zero hg) (by rw [Nat.one_mul]; exact h3)
theorem cmpN_zero {x y : Nat} : cmpN x y = 0 ↔ x = y := by
  rcases Nat.lt_trichotomy x y with h | h | h
  · rw [cmpN_lt h]; exact ⟨fun e => absurd e (by decide), fun e => absurd e (by omega)⟩
  · exact ⟨fun _ => h, fun _ => cmpN_eq h⟩
  · rw [cmpN_gt h]; exact ⟨fun e => absurd e (by decide), fun e => absurd e (by omega)⟩
theorem cmpN_scale {x y k : Nat} (hk : k ≠ 0) : cmpN (x * k) (y * k) = cmpN x y := by
  rcases Nat.lt_trichotomy x y with h | h | h
  · rw [cmpN_lt h, cmpN_lt ((Nat.mul_lt_mul_right (Nat.pos_of_ne_zero hk)).2 h)]
  · rw [cmpN_eq h, cmpN_eq (by rw [h])]
  · rw [cmpN_gt h, cmpN_gt ((Nat.mul_lt_mul_right (Nat.pos_of_ne_zero hk)).2 h)]
theorem low_len {a b n : Nat} (h : a ≤ b) (hb : (digs b).length ≤ n) : (digs a).length ≤ n := Nat.le_trans (digs_len_mono h) hb
theorem bothB_yes_ {a b : List Nat} (h1 : validB a = true) (h2 : validB b = true) : bothB a b = true := by unfold bothB; rw [h1, h2]; rfl
theorem vf_low {p q : Nat} (hq : q ≠ 0) (h1 : (digs p).length ≤ 16) (h2 : (digs q).length ≤ 16) (hg : gcdN p q = 1) : vfB (digs p) (digs q) = true := by
  have e : bothB (digs p) (digs q) = true := bothB_yes_ (Sm.valid h1) (Sm.valid h2)
  simp [vfB, e, digs_ne hq, val_digs, hg]
theorem bndS_low {l : List Nat × List Nat} (h1 : l.1.length ≤ 16) (h2 : l.2.length ≤ 16) : bndS l = (l, 0) := by unfold bndS; rw [if_pos ⟨h1, h2⟩]
theorem lowS_len {x y n : Nat} (h1 : (digs x).length ≤ n) (h2 : (digs y).length ≤ n) : (lowS x y).1.length ≤ n ∧ (lowS x y).2.length ≤ n := ⟨Nat.le_trans (digs_len_mono (Nat.div_le_self _ _)) h1, Nat.le_trans (digs_len_mono (Nat.div_le_self _ _)) h2⟩
theorem low_vf {x y : Nat} (hy : y ≠ 0) (h1 : Sm x) (h2 : Sm y) : vfB (lowS x y).1 (lowS x y).2 = true := by
  obtain ⟨p, q, g, hg, hq, rfl, rfl, h, e⟩ := low_parts x hy
  rw [e]
  exact vf_low hq (low_len (Nat.le_mul_of_pos_right _ (Nat.pos_of_ne_zero hg)) h1) (low_len (Nat.le_mul_of_pos_right _ (Nat.pos_of_ne_zero hg)) h2) h
theorem low_cmp {x y : Nat} {p q : List Nat} (hy : y ≠ 0) (h1 : Sm x) (h2 : Sm y) (hv : vfB p q = true) : cmpFS (lowS x y).1 (lowS x y).2 p q = (cmpN (x * val q) (val p * y), 0) := by
  have hl := low_vf hy h1 h2
  unfold cmpFS
  rw [if_pos (by unfold bothF; rw [hl, hv]; rfl)]
  obtain ⟨a, b, g, hg, hb, rfl, rfl, h, e⟩ := low_parts x hy
  rw [e]
  dsimp only
  rw [val_digs, val_digs, show a * g * val q = a * val q * g from Nat.mul_right_comm _ _ _, show val p * (b * g) = val p * b * g from (Nat.mul_assoc _ _ _).symm, cmpN_scale hg]
theorem low_eq {x y z t : Nat} (hy : y ≠ 0) (ht : t ≠ 0) (h : x * t = z * y) : lowS x y = lowS z t := by
  have h1 := lowS_scale (x := x) (y := y) (k := t) ht
  have h2 := lowS_scale (x := z) (y := t) (k := y) hy
  rw [← h1, ← h2, h, Nat.mul_comm y t]
theorem low_cmp2 {x y z t : Nat} (hy : y ≠ 0) (ht : t ≠ 0) (h1 : Sm x) (h2 : Sm y) (h3 : Sm z) (h4 : Sm t) : cmpFS (lowS x y).1 (lowS x y).2 (lowS z t).1 (lowS z t).2 = (cmpN (x * t) (z * y), 0) := by
  rw [low_cmp hy h1 h2 (low_vf ht h3 h4)]
  obtain ⟨a, b, g, hg, hb, rfl, rfl, h, e⟩ := low_parts z ht
  rw [e]
  dsimp only
  rw [val_digs, val_digs, show x * (b * g) = x * b * g from (Nat.mul_assoc _ _ _).symm, show a * g * y = a * y * g from Nat.mul_right_comm _ _ _, cmpN_scale hg]
theorem low_le (x : Nat) {y : Nat} (hy : y ≠ 0) : val (lowS x y).1 ≤ x ∧ val (lowS x y).2 ≤ y ∧ val (lowS x y).2 ≠ 0 := by
  obtain ⟨a, b, g, hg, hb, rfl, rfl, h, e⟩ := low_parts x hy
  rw [e]
  dsimp only
  rw [val_digs, val_digs]
  exact ⟨Nat.le_mul_of_pos_right _ (Nat.pos_of_ne_zero hg), Nat.le_mul_of_pos_right _ (Nat.pos_of_ne_zero hg), hb⟩
/-- Sums of fractions of numbers that are not great. -/
theorem low_add {x y z t : Nat} (hy : y ≠ 0) (ht : t ≠ 0) (h1 : x < 2 ^ 200) (h2 : y < 2 ^ 200) (h3 : z < 2 ^ 200) (h4 : t < 2 ^ 200) : addFS (lowS x y).1 (lowS x y).2 (lowS z t).1 (lowS z t).2 = (lowS (x * t + z * y) (y * t), 0) := by
  have s1 : Sm x := sm_le (Nat.le_of_lt h1)
  have s2 : Sm y := sm_le (Nat.le_of_lt h2)
  have s3 : Sm z := sm_le (Nat.le_of_lt h3)
  have s4 : Sm t := sm_le (Nat.le_of_lt h4)
  unfold addFS
  rw [if_pos (by unfold bothF; rw [low_vf hy s1 s2, low_vf ht s3 s4]; rfl)]
  obtain ⟨a, b, g, hg, hb, rfl, rfl, h, e⟩ := low_parts x hy
  obtain ⟨c, d, k, hk, hd, rfl, rfl, h', e'⟩ := low_parts z ht
  rw [e, e']
  dsimp only
  rw [val_digs, val_digs, val_digs, val_digs]
  have e3 : lowS (a * g * (d * k) + c * k * (b * g)) (b * g * (d * k)) = lowS (a * d + c * b) (b * d) := by
    rw [show a * g * (d * k) + c * k * (b * g) = (a * d + c * b) * (g * k) from by rw [Nat.add_mul]; congr 1 <;> ac_rfl, show b * g * (d * k) = b * d * (g * k) from by ac_rfl]
    exact lowS_scale (Nat.mul_ne_zero hg hk)
  rw [e3]
  have l1 : a < 2 ^ 200 := Nat.lt_of_le_of_lt (Nat.le_mul_of_pos_right _ (Nat.pos_of_ne_zero hg)) h1
  have l2 : b < 2 ^ 200 := Nat.lt_of_le_of_lt (Nat.le_mul_of_pos_right _ (Nat.pos_of_ne_zero hg)) h2
  have l3 : c < 2 ^ 200 := Nat.lt_of_le_of_lt (Nat.le_mul_of_pos_right _ (Nat.pos_of_ne_zero hk)) h3
  have l4 : d < 2 ^ 200 := Nat.lt_of_le_of_lt (Nat.le_mul_of_pos_right _ (Nat.pos_of_ne_zero hk)) h4
  have m1 : a * d ≤ 2 ^ 200 * 2 ^ 200 := Nat.mul_le_mul (Nat.le_of_lt l1) (Nat.le_of_lt l4)
  have m2 : c * b ≤ 2 ^ 200 * 2 ^ 200 := Nat.mul_le_mul (Nat.le_of_lt l3) (Nat.le_of_lt l2)
  have m3 : b * d ≤ 2 ^ 200 * 2 ^ 200 := Nat.mul_le_mul (Nat.le_of_lt l2) (Nat.le_of_lt l4)
  have n1 : Sm (a * d + c * b) := digs_len_le (k := 16) (Nat.lt_of_le_of_lt (Nat.add_le_add m1 m2) (by decide +kernel))
  have n2 : Sm (b * d) := digs_len_le (k := 16) (Nat.lt_of_le_of_lt m3 (by decide +kernel))
  obtain ⟨u1, u2⟩ := lowS_len (n := 16) n1 n2
  exact bndS_low u1 u2
theorem cmpN_le0 {x y : Nat} : cmpN x y ≤ 0 ↔ x ≤ y := by
  rcases cmpN_cases x y with ⟨h, e⟩ | ⟨h, e⟩ | ⟨h, e⟩ <;> rw [e] <;> constructor <;> intro <;> omega
theorem cmpN_gt0 {x y : Nat} : 0 < cmpN x y ↔ y < x := by
  rcases cmpN_cases x y with ⟨h, e⟩ | ⟨h, e⟩ | ⟨h, e⟩ <;> rw [e] <;> constructor <;> intro <;> omega
theorem cmpN_ge0 {x y : Nat} : 0 ≤ cmpN x y ↔ y ≤ x := by
  rcases cmpN_cases x y with ⟨h, e⟩ | ⟨h, e⟩ | ⟨h, e⟩ <;> rw [e] <;> constructor <;> intro <;> omega
end Go.Proofs.YtenpkmgbaajeeaaGreat
