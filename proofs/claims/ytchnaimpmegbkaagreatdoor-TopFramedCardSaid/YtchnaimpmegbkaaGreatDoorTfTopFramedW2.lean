/-
  Lemmas and contracts, joined.
-/
import Derived.Lib.AppendZeros
import Derived.Deep.MidRow
import Derived.Deep.QuietTactic
import Derived.BigQuiet
import Derived.Test.YtchnaimpmegbkaaGreatDoorTfTopFramedW1
import Derived.Test.YtchnaimpmegbkaaGreatDoorTfTj1
import Derived.Test.YtchnaimpmegbkaaGreatDoorTfTp2
import Derived.Test.YtchnaimpmegbkaaGreatDoorTfTc1
import Derived.Test.YtchnaimpmegbkaaGreatDoorTfTh1
import Derived.Test.YtchnaimpmegbkaaGreatDoorTfTr1
import Derived.Test.YtchnaimpmegbkaaGreatDoorTfTp1
import Derived.Test.YtchnaimpmegbkaaGreatDoorTfTl1
import Derived.Test.YtchnaimpmegbkaaGreatDoorTfTr2
import Derived.Test.YtchnaimpmegbkaaGreatDoorTfTl2
set_option linter.unusedSimpArgs false
set_option linter.unusedVariables false
set_option linter.unnecessarySimpa false
/- The example: the walk. -/
namespace Go.Proofs.YtchnaimpmegbkaaGreatDoor
open Go.RowKit
set_option linter.unusedVariables false
set_option linter.unusedSimpArgs false

theorem one20s (A : Option Addr) (n c : Nat) (B : Option Addr) (m d : Nat) : ((#[.int .i64 3, .int .i64 2, .int .u8 1, .int .u8 0, .int .u8 0, .int .u8 0, .int .u8 0, .int .u8 0, .int .u8 0, .int .u8 0, .int .u8 0, .int .u8 0, .int .u8 0, .int .u8 0, .int .u8 0, .int .u8 0, .int .u8 0, .int .u8 0, .slice A n c, .slice B m d] : Array Value).all (·.oneCell')) = true := by simp [Value.oneCell']
theorem TestsIn.below_ {w W : World} (h : TestsIn w) (hb : Below w.heap.size w W) : TestsIn W := fun j v hv => (hb.cell (World.block_lt_of_cell? _ _ (h j v hv))).trans (h j v hv)
theorem rows3_lit (w5 : World) {W : World} (h6 : W = (((w5.alloc (.cells #[.int .u8 0, .int .u8 0, .int .u8 1] 5)).alloc (.cells #[.int .u8 1, .int .u8 0, .int .u8 1] 5)).alloc (.cells #[.int .u8 1, .int .u8 1, .int .u8 0] 5)).alloc (.cells #[.slice (some ⟨w5.heap.size, 0, none⟩) 3 3, .slice (some ⟨w5.heap.size + 1, 0, none⟩) 3 3, .slice (some ⟨w5.heap.size + 1 + 1, 0, none⟩) 3 3] 31)) : RR W (some ⟨w5.heap.size + 1 + 1 + 1, 0, none⟩) 3 [(⟨some ⟨w5.heap.size, 0, none⟩, 3, [0, 0, 1]⟩ : BRow), ⟨some ⟨w5.heap.size + 1, 0, none⟩, 3, [1, 0, 1]⟩, ⟨some ⟨w5.heap.size + 1 + 1, 0, none⟩, 3, [1, 1, 0]⟩] ∧ Below w5.heap.size w5 W := by
  have e1 : Below (w5.alloc (.cells #[.int .u8 0, .int .u8 0, .int .u8 1] 5)).heap.size (w5.alloc (.cells #[.int .u8 0, .int .u8 0, .int .u8 1] 5)) W := by rw [h6]; exact alloc3_bel _ _ _ _
  have e2 : Below ((w5.alloc (.cells #[.int .u8 0, .int .u8 0, .int .u8 1] 5)).alloc (.cells #[.int .u8 1, .int .u8 0, .int .u8 1] 5)).heap.size ((w5.alloc (.cells #[.int .u8 0, .int .u8 0, .int .u8 1] 5)).alloc (.cells #[.int .u8 1, .int .u8 0, .int .u8 1] 5)) W := by rw [h6]; exact alloc2_bel _ _ _
  have e3 : Below (((w5.alloc (.cells #[.int .u8 0, .int .u8 0, .int .u8 1] 5)).alloc (.cells #[.int .u8 1, .int .u8 0, .int .u8 1] 5)).alloc (.cells #[.int .u8 1, .int .u8 1, .int .u8 0] 5)).heap.size (((w5.alloc (.cells #[.int .u8 0, .int .u8 0, .int .u8 1] 5)).alloc (.cells #[.int .u8 1, .int .u8 0, .int .u8 1] 5)).alloc (.cells #[.int .u8 1, .int .u8 1, .int .u8 0] 5)) W := by rw [h6]; exact alloc_bel _ _
  have r1 : BR W (some ⟨w5.heap.size, 0, none⟩) 3 [0, 0, 1] := ((Blk.new w5 5 (cellsB [0, 0, 1]).toArray).below' e1).brn rfl (by omega)
  have r2 : BR W (some ⟨w5.heap.size + 1, 0, none⟩) 3 [1, 0, 1] := by
    have := ((Blk.new (w5.alloc (.cells #[.int .u8 0, .int .u8 0, .int .u8 1] 5)) 5 (cellsB [1, 0, 1]).toArray).below' e2).brn (n := 3) rfl (by omega)
    simpa using this
  have r3 : BR W (some ⟨w5.heap.size + 1 + 1, 0, none⟩) 3 [1, 1, 0] := by
    have := ((Blk.new ((w5.alloc (.cells #[.int .u8 0, .int .u8 0, .int .u8 1] 5)).alloc (.cells #[.int .u8 1, .int .u8 0, .int .u8 1] 5)) 5 (cellsB [1, 1, 0]).toArray).below' e3).brn (n := 3) rfl (by omega)
    simpa using this
  have b3 : Blk W (w5.heap.size + 1 + 1 + 1) 31 #[.slice (some ⟨w5.heap.size, 0, none⟩) 3 3, .slice (some ⟨w5.heap.size + 1, 0, none⟩) 3 3, .slice (some ⟨w5.heap.size + 1 + 1, 0, none⟩) 3 3] := by
    have := Blk.new (((w5.alloc (.cells #[.int .u8 0, .int .u8 0, .int .u8 1] 5)).alloc (.cells #[.int .u8 1, .int .u8 0, .int .u8 1] 5)).alloc (.cells #[.int .u8 1, .int .u8 1, .int .u8 0] 5)) 31 #[.slice (some ⟨w5.heap.size, 0, none⟩) 3 3, .slice (some ⟨w5.heap.size + 1, 0, none⟩) 3 3, .slice (some ⟨w5.heap.size + 1 + 1, 0, none⟩) 3 3]
    rw [h6]
    simpa using this
  refine ⟨⟨⟨⟨by simp, by simp, by simp, by simp⟩, fun _ => ⟨_, _, rfl, b3.lt, fun j u hu => ?_⟩⟩, fun r hr => ?_⟩, bel_on (alloc_bel _ _) e1⟩
  · rw [Nat.zero_add, b3.cell j]
    simpa [BRow.v] using hu
  · simp only [List.mem_cons, List.not_mem_nil, or_false] at hr
    rcases hr with rfl | rfl | rfl
    · exact r1
    · exact r2
    · exact r3
set_option maxHeartbeats 8000000 in
set_option maxRecDepth 100000 in
theorem alive09_any (w : World) (hT : TestsIn w) : Calls Tryz.prog 5 #[] w fun e w' => e = .returned (.bool true) ∧ Below w.heap.size w w' := by
  have HT := Lib.hid hT
  obtain ⟨d1, hd1⟩ : ∃ q, (digs 1).length = q := ⟨_, rfl⟩
  obtain ⟨d6, hd6⟩ : ∃ q, (digs 6).length = q := ⟨_, rfl⟩
  obtain ⟨l1, hl1⟩ : ∃ q, (lowS 1 6).1.length = q := ⟨_, rfl⟩
  obtain ⟨l6, hl6⟩ : ∃ q, (lowS 1 6).2.length = q := ⟨_, rfl⟩
  have HO1 : Hid (∀ W, Calls Tryz.prog 23 #[.int .u64 1] W fun e w' => (∃ A c, e = .returned (.slice A d1 c) ∧ NR w' A c (digs 1)) ∧ Below W.heap.size W w') := fun W => by rw [← hd1]; exact ofD_any 1 W (by omega)
  have HO6 : Hid (∀ W, Calls Tryz.prog 23 #[.int .u64 6] W fun e w' => (∃ A c, e = .returned (.slice A d6 c) ∧ NR w' A c (digs 6)) ∧ Below W.heap.size W w') := fun W => by rw [← hd6]; exact ofD_any 6 W (by omega)
  have HRT : Hid (∀ R r T t W, NR W R r (digs 1) → NR W T t (digs 6) → Calls Tryz.prog 22 #[.slice R d1 r, .slice T d6 t] W fun e w' => (∃ X x Y y, e = .returned (.tuple #[.agg #[.slice X l1 x, .slice Y l6 y], .int .i64 0]) ∧ NR w' X x (lowS 1 6).1 ∧ NR w' Y y (lowS 1 6).2) ∧ Below W.heap.size W w') := fun R r T t W g1 g2 =>
    (ratioD_any (sm_small (by omega)) (sm_small (by omega)) (by omega) hd1 hd6 g1 g2).mono fun e w' hq => by
      obtain ⟨v, rfl, X, x, Y, y, rfl, h1, h2, -, h3⟩ := hq
      rw [← hl1, ← hl6]
      exact ⟨⟨X, x, Y, y, rfl, h1.1, h2.1⟩, h3⟩
  have HL1 := Lib.hid hl1
  have HL6 := Lib.hid hl6
  clear hd1 hd6 hl1 hl6 hT
  go_enter Tryz.func5, Tryz.ntmps5
  go_wp2_with fail
  refine (HO1.out _).mono ?_
  rintro e w1 ⟨⟨A1, c1, rfl, h1⟩, hb1⟩
  have K1 : Hid (Below w.heap.size w w1) := hb1
  have N1 := Lib.hid h1
  clear hb1 h1
  go_wp2_with fail
  refine (HO6.out _).mono ?_
  rintro e w2 ⟨⟨A2, c2, rfl, h2⟩, hb2⟩
  have K2 : Hid (Below w.heap.size w w2) := bel_on K1.out hb2
  have N2 := Lib.hid h2
  have N1' := Lib.hid (N1.out.below hb2)
  clear hb2 h2
  go_wp2_with fail
  --MARK a
  refine (HRT.out _ _ _ _ _ N1'.out N2.out).mono ?_
  rintro e w3 ⟨⟨X, x, Y, y, rfl, hX, hY⟩, hb3⟩
  have K3 : Hid (Below w.heap.size w w3) := bel_on K2.out hb3
  obtain ⟨w4, hw4⟩ : ∃ W, W = w3.alloc (.cells #[.slice X l1 x, .slice Y l6 y] 27) := ⟨_, rfl⟩
  have d4 : Below w3.heap.size w3 w4 := by rw [hw4]; exact alloc_bel _ _
  have T4 : Hid (Blk w4 w3.heap.size 27 #[.slice X l1 x, .slice Y l6 y]) := by unfold Hid; rw [hw4]; exact Blk.new _ _ _
  obtain ⟨sv, hsv⟩ : ∃ s, s = aliveV X x Y y := ⟨_, rfl⟩
  obtain ⟨w5, hw5⟩ : ∃ W, W = w4.alloc (.cells #[.int .i64 3, .int .i64 2, .int .u8 1, .int .u8 0, .int .u8 0, .int .u8 0, .int .u8 0, .int .u8 0, .int .u8 0, .int .u8 0, .int .u8 0, .int .u8 0, .int .u8 0, .int .u8 0, .int .u8 0, .int .u8 0, .int .u8 0, .int .u8 0, .slice X l1 x, .slice Y l6 y] 29) := ⟨_, rfl⟩
  have d5 : Below w4.heap.size w4 w5 := by rw [hw5]; exact alloc_bel _ _
  have hcs : sv.cs.toArray = #[.int .i64 3, .int .i64 2, .int .u8 1, .int .u8 0, .int .u8 0, .int .u8 0, .int .u8 0, .int .u8 0, .int .u8 0, .int .u8 0, .int .u8 0, .int .u8 0, .int .u8 0, .int .u8 0, .int .u8 0, .int .u8 0, .int .u8 0, .int .u8 0, .slice X l1 x, .slice Y l6 y] := by rw [hsv]; exact alive_cs_ X x Y y HL1.out HL6.out
  have X5 : Hid (Blk w5 w4.heap.size 29 sv.cs.toArray) := by unfold Hid; rw [hw5, hcs]; exact Blk.new _ _ _
  have S5 : Hid (StOK w5 sv) := by rw [hsv]; exact ⟨rfl, (hX.below d4).below d5, (hY.below d4).below d5⟩
  have K5 : Hid (Below w.heap.size w w5) := bel_on (bel_on K3.out d4) d5
  have HIN : Hid ((Tryz.prog.info? 29).map (·.size) = some sv.cs.toArray.size) := StV.info (s := sv) S5.out.k16
  have hk16 : sv.k.length = 16 := S5.out.k16
  have H20 : Hid (sv.cs.length = 20) := StV.len hk16
  have HAL : Hid (∀ v ∈ sv.cs, v.oneCell' = true) := by
    have := StV.all sv
    rw [List.all_toArray, List.all_eq_true] at this
    exact this
  have hok : sv.ok = true := by rw [hsv]; exact alive_ok_ X x Y y
  have hsn : sv.n = 4 := by rw [hsv]; exact alive_n_ X x Y y
  have hsu : sv.u = 3 := by rw [hsv]; rfl
  have hsm : sv.nms (sv.word 1) = [1] := by rw [hsv]; exact alive_nms_ X x Y y
  have HSW : Hid (∀ W, Below w5.heap.size w5 W → Calls Tryz.prog 15 #[.agg sv.cs.toArray, .int .i64 1] W fun e w' => (∃ A c, e = .returned (.tuple #[.slice A 4 c, .int .i64 0]) ∧ BR w' A c (sv.word 1)) ∧ Below W.heap.size W w') := fun W hW => alive_stepWord (S5.out.below hW) hok hsu hsn
  have HTS : Hid (∀ W Z z, Below w5.heap.size w5 W → BR W Z z (sv.word 1) → Calls Tryz.prog 18 #[.agg sv.cs.toArray, .slice Z 4 z] W fun e w' => (∃ A c, e = .returned (.tuple #[.slice A 1 c, .int .i64 0]) ∧ IR w' A c [1]) ∧ Below W.heap.size W w') := fun W Z z hW hZ => alive_trace (S5.out.below hW) hok hsn hsm hZ
  --MARK b
  have HX5 : Hid (∀ W, Below w5.heap.size w5 W → Blk W w4.heap.size 29 sv.cs.toArray) := fun W hW => X5.out.below' hW
  have HW4 := Lib.hid hw4
  have HW5 : Hid (w5 = w4.alloc (.cells #[.int .i64 3, .int .i64 2, .int .u8 1, .int .u8 0, .int .u8 0, .int .u8 0, .int .u8 0, .int .u8 0, .int .u8 0, .int .u8 0, .int .u8 0, .int .u8 0, .int .u8 0, .int .u8 0, .int .u8 0, .int .u8 0, .int .u8 0, .int .u8 0, .slice X l1 x, .slice Y l6 y] 29)) := hw5
  have I5 : Hid (Below w5.heap.size w5 w5) := Below.refl _ _
  obtain ⟨w6, hw6⟩ : ∃ W, W = (((w5.alloc (.cells #[.int .u8 0, .int .u8 0, .int .u8 1] 5)).alloc (.cells #[.int .u8 1, .int .u8 0, .int .u8 1] 5)).alloc (.cells #[.int .u8 1, .int .u8 1, .int .u8 0] 5)).alloc (.cells #[.slice (some ⟨w5.heap.size, 0, none⟩) 3 3, .slice (some ⟨w5.heap.size + 1, 0, none⟩) 3 3, .slice (some ⟨w5.heap.size + 1 + 1, 0, none⟩) 3 3] 31) := ⟨_, rfl⟩
  have R6 : Hid (RR w6 (some ⟨w5.heap.size + 1 + 1 + 1, 0, none⟩) 3 [(⟨some ⟨w5.heap.size, 0, none⟩, 3, [0, 0, 1]⟩ : BRow), ⟨some ⟨w5.heap.size + 1, 0, none⟩, 3, [1, 0, 1]⟩, ⟨some ⟨w5.heap.size + 1 + 1, 0, none⟩, 3, [1, 1, 0]⟩]) := (rows3_lit w5 hw6).1
  have I6 : Hid (Below w5.heap.size w5 w6) := (rows3_lit w5 hw6).2
  have HW6 := Lib.hid hw6
  have HRG : Hid (Calls Tryz.prog 9 #[.agg sv.cs.toArray, .slice (some ⟨w5.heap.size + 1 + 1 + 1, 0, none⟩) 3 3, .agg #[.int .u8 2, .int .u8 0, .int .u8 0, .int .u8 0, .int .u8 0, .int .u8 0, .int .u8 0, .int .u8 0, .int .u8 0, .int .u8 0, .int .u8 0, .int .u8 0, .int .u8 0, .int .u8 0, .int .u8 0, .int .u8 0]] w6 fun e w' => (∃ N a C b, e = .returned (.tuple #[.agg (regC sv.cs (some ⟨w5.heap.size + 1 + 1 + 1, 0, none⟩) 3 3 N 3 a C 3 b (rootS (comsF ak2 ahs 3))).toArray, .bool true]) ∧ OK16 w6.heap.size w' N a (nonsF ak2 3) ∧ OK16 w6.heap.size w' C b (comsF ak2 ahs 3)) ∧ Below w6.heap.size w6 w') :=
    alive_reg (S5.out.below I6.out) R6.out rfl
  clear hw4 hw5 hw6 hcs hsv hok hsn hsu hsm hX hY hb3 d4 d5 hk16
  --MARK c
  go_wp2_with (first
    | (rw [← HW4.out])
    | (rw [← HW5.out])
    | (rw [← HW6.out])
    | (refine wpList_buildTo rfl 23 #[(0, .const (.int .u8 1))] rfl (some 21) rfl #[.int .u8 1, .int .u8 0, .int .u8 0, .int .u8 0, .int .u8 0, .int .u8 0, .int .u8 0, .int .u8 0, .int .u8 0, .int .u8 0, .int .u8 0, .int .u8 0, .int .u8 0, .int .u8 0, .int .u8 0, .int .u8 0] (by kernel_rfl) ?_)
    | (refine wpList_buildTo rfl 23 #[(0, .const (.int .u8 2))] rfl (some 30) rfl #[.int .u8 2, .int .u8 0, .int .u8 0, .int .u8 0, .int .u8 0, .int .u8 0, .int .u8 0, .int .u8 0, .int .u8 0, .int .u8 0, .int .u8 0, .int .u8 0, .int .u8 0, .int .u8 0, .int .u8 0, .int .u8 0] (by kernel_rfl) ?_)
    | (refine wpList_buildTo rfl 29 #[(0, .const (.int .i64 3)), (1, .const (.int .i64 2)), (2, .tmp 21), (3, .tmp 22)] rfl (some 23) rfl #[.int .i64 3, .int .i64 2, .int .u8 1, .int .u8 0, .int .u8 0, .int .u8 0, .int .u8 0, .int .u8 0, .int .u8 0, .int .u8 0, .int .u8 0, .int .u8 0, .int .u8 0, .int .u8 0, .int .u8 0, .int .u8 0, .int .u8 0, .int .u8 0, .slice X l1 x, .slice Y l6 y] (by kernel_rfl) ?_)
    | (refine wpList_store_row rfl 29 (.tmp 3) (.tmp 23) rfl w4.heap.size #[.int .i64 3, .int .i64 2, .int .u8 1, .int .u8 0, .int .u8 0, .int .u8 0, .int .u8 0, .int .u8 0, .int .u8 0, .int .u8 0, .int .u8 0, .int .u8 0, .int .u8 0, .int .u8 0, .int .u8 0, .int .u8 0, .int .u8 0, .int .u8 0, .slice X l1 x, .slice Y l6 y] rfl rfl 29 #[.int .i64 0, .int .i64 0, .int .u8 0, .int .u8 0, .int .u8 0, .int .u8 0, .int .u8 0, .int .u8 0, .int .u8 0, .int .u8 0, .int .u8 0, .int .u8 0, .int .u8 0, .int .u8 0, .int .u8 0, .int .u8 0, .int .u8 0, .int .u8 0, .slice none 0 0, .slice none 0 0] (Blk.new w4 _ _) (by kernel_rfl) rfl (one20s _ _ _ _ _ _) ?_; rw [setRow_alloc_new, ← HW5.out])
    | (refine wpList_load_row rfl 27 (.tmp 1) rfl w3.heap.size rfl 27 #[.slice X l1 x, .slice Y l6 y] (0, 0) _ T4.out Tryz.underlying27 rfl (by kernel_rfl) ?_)
    | (refine wpList_load_row rfl 29 (.tmp 3) rfl w4.heap.size rfl 29 sv.cs.toArray (0, 0) _ (HX5.out _ I5.out) Tryz.underlying29 rfl HIN.out ?_))
  --MARK 1
  refine HRG.out.mono ?_
  rintro e w7 ⟨⟨N, a, C, b, rfl, hN7, hC7⟩, hb7⟩
  have B67 := Lib.hid hb7
  have I7 : Hid (Below w5.heap.size w5 w7) := bel_on I6.out hb7
  have K7 : Hid (Below w.heap.size w w7) := bel_on K5.out I7.out
  obtain ⟨rg, hrg⟩ : ∃ q, q = regC sv.cs (some ⟨w5.heap.size + 1 + 1 + 1, 0, none⟩) 3 3 N 3 a C 3 b (rootS (comsF ak2 ahs 3)) := ⟨_, rfl⟩
  have HRI : Hid ((Tryz.prog.info? 37).map (·.size) = some rg.toArray.size) := by rw [hrg]; exact reg_info H20.out (rootS_length _)
  have HRO : Hid (zReg.size = rg.toArray.size) := by rw [hrg]; exact zReg_old H20.out (rootS_length _)
  have HRA : Hid (rg.toArray.all (·.oneCell') = true) := by rw [hrg]; exact all_oneCell_toArray (regC_all HAL.out)
  have N7 := Lib.hid hN7
  have C7 := Lib.hid hC7
  have HRGV := Lib.hid hrg
  rw [← hrg]
  clear hb7 hN7 hC7 hrg
  go_wp2_with (first
    | ((first | rw [zero39] | skip); refine wpList_store_row rfl 37 (.tmp 4) (.tmp 32) rfl w7.heap.size rg.toArray rfl rfl 37 zReg (Blk.new w7 _ _) HRI.out HRO.out HRA.out ?_; obtain ⟨w8, hV⟩ : ∃ W, W = (w7.alloc (.cells zReg 37)).setRow w7.heap.size rg.toArray := ⟨_, rfl⟩; rw [← hV]; obtain ⟨gb, nb⟩ := keybox2_ _ _ _ _ hV; have X8 := Lib.hid nb; have E78 := Lib.hid gb; have K8 := Lib.hid (bel_on K7.out gb); have I8 := Lib.hid (bel_on I7.out gb); have N8 := Lib.hid (N7.out.below gb); have C8 := Lib.hid (C7.out.below gb); clear hV gb nb)
    | (refine wpList_load_row rfl 29 (.tmp 3) rfl w4.heap.size rfl 29 sv.cs.toArray (0, 0) _ (HX5.out _ I8.out) Tryz.underlying29 rfl HIN.out ?_))
  --MARK 2
  have HX8 : Hid (∀ W, Below w8.heap.size w8 W → Blk W w7.heap.size 37 rg.toArray) := fun W hW => X8.out.below' hW
  refine (HSW.out _ I8.out).mono ?_
  rintro e w9 ⟨⟨A9, c9, rfl, h9⟩, hb9⟩
  have J9 : Hid (Below w8.heap.size w8 w9) := hb9
  have I9 : Hid (Below w5.heap.size w5 w9) := bel_on I8.out hb9
  have Z9 := Lib.hid h9
  clear hb9 h9
  go_wp2_with (first | (refine wpList_load_row rfl 29 (.tmp 3) rfl w4.heap.size rfl 29 sv.cs.toArray (0, 0) _ (HX5.out _ I9.out) Tryz.underlying29 rfl HIN.out ?_))
  refine (HTS.out _ _ _ I9.out Z9.out).mono ?_
  rintro e w10 ⟨⟨A10, c10, rfl, h10⟩, hb10⟩
  have J10 : Hid (Below w8.heap.size w8 w10) := bel_on J9.out hb10
  have K10 : Hid (Below w.heap.size w w10) := bel_on K8.out J10.out
  obtain ⟨pl, ol, rfl, -, hcl⟩ := h10.at_ (i := 0) (by simp)
  rw [Nat.add_zero] at hcl
  have hcl2 : w10.cell? ⟨pl, ol, none⟩ = some (.int .i64 1) := hcl
  obtain ⟨v1, hv1⟩ : ∃ v, v = ownV ak2 ahs 3 1 [1, 0, 1] 3 := ⟨_, rfl⟩
  obtain ⟨v2, hv2⟩ : ∃ v, v = ownV ak2 ahs 3 2 [1, 0, 1] 2 := ⟨_, rfl⟩
  obtain ⟨m1, hm1⟩ : ∃ q, (pathS (comsF ak2 ahs 3) 1).length = q := ⟨_, rfl⟩
  obtain ⟨m2, hm2⟩ : ∃ q, (pathS (comsF ak2 ahs 3) 2).length = q := ⟨_, rfl⟩
  have HV1 : Hid (judgeS v1 = (3, 0)) := by rw [hv1]; exact judge_ex1
  have HV2 : Hid (judgeS v2 = (4, 0)) := by rw [hv2]; exact judge_ex2
  have HRR : Hid (∀ W, Below w8.heap.size w8 W → RR W (some ⟨w5.heap.size + 1 + 1 + 1, 0, none⟩) 3 [(⟨some ⟨w5.heap.size, 0, none⟩, 3, [0, 0, 1]⟩ : BRow), ⟨some ⟨w5.heap.size + 1, 0, none⟩, 3, [1, 0, 1]⟩, ⟨some ⟨w5.heap.size + 1 + 1, 0, none⟩, 3, [1, 1, 0]⟩] ∧ KR W N a (nonsF ak2 3) ∧ KR W C b (comsF ak2 ahs 3)) := fun W hW => by
    have b68 : Below w6.heap.size w6 w8 := bel_on B67.out E78.out
    exact ⟨(R6.out.below b68).below hW, (N8.out.kr (nonsF_16 ak2 rfl 3) (by rw [nonsF_len]; omega)).below hW, (C8.out.kr (comsF_16 ak2 ahs 3) (by rw [comsF_len]; omega)).below hW⟩
  have HAC1 : Hid (∀ W Q, Below w8.heap.size w8 W → BR W Q 3 [1, 0, 1] → Calls Tryz.prog 10 #[.agg rg.toArray, .int .i64 1, .slice Q 3 3, .int .i64 3] W fun e w' => (∃ A' c', e = .returned (.tuple #[.agg (caseC v1 A' m1 c' Q 3 3 (some ⟨w5.heap.size + 1, 0, none⟩) 3 3).toArray, .bool true]) ∧ CaseOK w' v1 A' m1 c' Q 3 3 (some ⟨w5.heap.size + 1, 0, none⟩) 3 3) ∧ Below W.heap.size W w') := fun W Q hW hQ => by
    obtain ⟨g1, g2, g3⟩ := HRR.out W hW
    rw [HRGV.out, hv1]
    exact accused_own (cl := sv.cs) (rs := [(⟨some ⟨w5.heap.size, 0, none⟩, 3, [0, 0, 1]⟩ : BRow), ⟨some ⟨w5.heap.size + 1, 0, none⟩, 3, [1, 0, 1]⟩, ⟨some ⟨w5.heap.size + 1 + 1, 0, none⟩, 3, [1, 1, 0]⟩]) (u := 1) (n := 3) (y := [1, 0, 1]) (need := 3) (r := ⟨(some ⟨w5.heap.size + 1, 0, none⟩), 3, [1, 0, 1]⟩) H20.out HAL.out rfl rfl (by omega) (by omega) rfl g1 g2 g3 rfl rfl hQ hm1
  have HAC2 : Hid (∀ W Q, Below w8.heap.size w8 W → BR W Q 3 [1, 0, 1] → Calls Tryz.prog 10 #[.agg rg.toArray, .int .i64 2, .slice Q 3 3, .int .i64 2] W fun e w' => (∃ A' c', e = .returned (.tuple #[.agg (caseC v2 A' m2 c' Q 3 3 (some ⟨w5.heap.size + 1 + 1, 0, none⟩) 3 3).toArray, .bool true]) ∧ CaseOK w' v2 A' m2 c' Q 3 3 (some ⟨w5.heap.size + 1 + 1, 0, none⟩) 3 3) ∧ Below W.heap.size W w') := fun W Q hW hQ => by
    obtain ⟨g1, g2, g3⟩ := HRR.out W hW
    rw [HRGV.out, hv2]
    exact accused_own (cl := sv.cs) (rs := [(⟨some ⟨w5.heap.size, 0, none⟩, 3, [0, 0, 1]⟩ : BRow), ⟨some ⟨w5.heap.size + 1, 0, none⟩, 3, [1, 0, 1]⟩, ⟨some ⟨w5.heap.size + 1 + 1, 0, none⟩, 3, [1, 1, 0]⟩]) (u := 2) (n := 3) (y := [1, 0, 1]) (need := 2) (r := ⟨(some ⟨w5.heap.size + 1 + 1, 0, none⟩), 3, [1, 1, 0]⟩) H20.out HAL.out rfl rfl (by omega) (by omega) rfl g1 g2 g3 rfl rfl hQ hm2
  clear hcl h10 hb10 hv1 hv2 hm1 hm2
  --MARK 3
  obtain ⟨w11, hw11⟩ : ∃ W, W = w10.alloc (.cells #[.int .u8 1, .int .u8 0, .int .u8 1] 5) := ⟨_, rfl⟩
  have Y10 : Hid (BR w11 (some ⟨w10.heap.size, 0, none⟩) 3 [1, 0, 1]) := by unfold Hid; rw [hw11]; exact (Blk.new w10 5 (cellsB [1, 0, 1]).toArray).brn rfl (by omega)
  have fa1 : Below w10.heap.size w10 w11 := by rw [hw11]; exact alloc_bel _ _
  have K11 : Hid (Below w.heap.size w w11) := bel_on K10.out (by rw [hw11]; exact alloc_bel _ _)
  have J11 : Hid (Below w8.heap.size w8 w11) := bel_on J10.out (by rw [hw11]; exact alloc_bel _ _)
  have Hw11 := Lib.hid hw11
  clear hw11
  go_wp2_with (first | (refine wpList_load_row rfl 37 (.tmp 4) rfl w7.heap.size rfl 37 rg.toArray (0, 0) _ (HX8.out _ J10.out) Tryz.underlying37 rfl HRI.out ?_) | (rw [← Hw11.out]))
  --MARK A1
  refine (HAC1.out _ _ J11.out Y10.out).mono ?_
  rintro e w12 ⟨⟨A1, c1, rfl, hp1⟩, hb1⟩
  have K12 : Hid (Below w.heap.size w w12) := bel_on K11.out hb1
  have J12 : Hid (Below w8.heap.size w8 w12) := bel_on J11.out hb1
  have FB1 : Hid (Below w10.heap.size w10 w12) := bel_on fa1 hb1
  have C1 : Hid (CaseOK w12 v1 A1 m1 c1 (some ⟨w10.heap.size, 0, none⟩) 3 3 (some ⟨w5.heap.size + 1, 0, none⟩) 3 3) := hp1
  clear hb1 hp1 fa1
  go_wp2_with (first
    | ((first | rw [zero55_] | skip); refine wpList_store_row rfl 43 (.tmp 10) (.tmp 74) rfl w12.heap.size (caseC v1 A1 m1 c1 (some ⟨w10.heap.size, 0, none⟩) 3 3 (some ⟨w5.heap.size + 1, 0, none⟩) 3 3).toArray rfl rfl 43 zCase (Blk.new w12 _ _) (case_info C1.out.r16 C1.out.c16 C1.out.n16) (zCase_old C1.out.r16 C1.out.c16 C1.out.n16) (by simpa using caseC_all _ _ _ _ _ _ _ _ _ _) ?_; obtain ⟨w13, hV⟩ : ∃ W, W = (w12.alloc (.cells zCase 43)).setRow w12.heap.size (caseC v1 A1 m1 c1 (some ⟨w10.heap.size, 0, none⟩) 3 3 (some ⟨w5.heap.size + 1, 0, none⟩) 3 3).toArray := ⟨_, rfl⟩; rw [← hV]; obtain ⟨gb, nb⟩ := keybox2_ _ _ _ _ hV; have Q1 := Lib.hid nb; have G1 := Lib.hid gb; have F1 := Lib.hid (bel_on FB1.out gb); have K13 := Lib.hid (bel_on K12.out gb); have J13 := Lib.hid (bel_on J12.out gb); clear hV gb nb)
    | (refine wpList_load_row rfl 37 (.tmp 4) rfl w7.heap.size rfl 37 rg.toArray (0, 0) _ (HX8.out _ J13.out) Tryz.underlying37 rfl HRI.out ?_))
  --MARK B1
  obtain ⟨w14, hw14⟩ : ∃ W, W = w13.alloc (.cells #[.int .u8 1, .int .u8 0, .int .u8 1] 5) := ⟨_, rfl⟩
  have Y13 : Hid (BR w14 (some ⟨w13.heap.size, 0, none⟩) 3 [1, 0, 1]) := by unfold Hid; rw [hw14]; exact (Blk.new w13 5 (cellsB [1, 0, 1]).toArray).brn rfl (by omega)
  have fa2 : Below w13.heap.size w13 w14 := by rw [hw14]; exact alloc_bel _ _
  have K14 : Hid (Below w.heap.size w w14) := bel_on K13.out (by rw [hw14]; exact alloc_bel _ _)
  have J14 : Hid (Below w8.heap.size w8 w14) := bel_on J13.out (by rw [hw14]; exact alloc_bel _ _)
  have Hw14 := Lib.hid hw14
  clear hw14
  rw [← Hw14.out]
  --MARK A2
  refine (HAC2.out _ _ J14.out Y13.out).mono ?_
  rintro e w15 ⟨⟨A2, c2, rfl, hp2⟩, hb2⟩
  have K15 : Hid (Below w.heap.size w w15) := bel_on K14.out hb2
  have J15 : Hid (Below w8.heap.size w8 w15) := bel_on J14.out hb2
  have FB2 : Hid (Below w13.heap.size w13 w15) := bel_on fa2 hb2
  have C2 : Hid (CaseOK w15 v2 A2 m2 c2 (some ⟨w13.heap.size, 0, none⟩) 3 3 (some ⟨w5.heap.size + 1 + 1, 0, none⟩) 3 3) := hp2
  clear hb2 hp2 fa2
  go_wp2_with (first
    | ((first | rw [zero55_] | skip); refine wpList_store_row rfl 43 (.tmp 11) (.tmp 80) rfl w15.heap.size (caseC v2 A2 m2 c2 (some ⟨w13.heap.size, 0, none⟩) 3 3 (some ⟨w5.heap.size + 1 + 1, 0, none⟩) 3 3).toArray rfl rfl 43 zCase (Blk.new w15 _ _) (case_info C2.out.r16 C2.out.c16 C2.out.n16) (zCase_old C2.out.r16 C2.out.c16 C2.out.n16) (by simpa using caseC_all _ _ _ _ _ _ _ _ _ _) ?_; obtain ⟨w16, hV⟩ : ∃ W, W = (w15.alloc (.cells zCase 43)).setRow w15.heap.size (caseC v2 A2 m2 c2 (some ⟨w13.heap.size, 0, none⟩) 3 3 (some ⟨w5.heap.size + 1 + 1, 0, none⟩) 3 3).toArray := ⟨_, rfl⟩; rw [← hV]; obtain ⟨gb, nb⟩ := keybox2_ _ _ _ _ hV; have Q2 := Lib.hid nb; have G2 := Lib.hid gb; have F2 := Lib.hid (bel_on FB2.out gb); have K16 := Lib.hid (bel_on K15.out gb); have J16 := Lib.hid (bel_on J15.out gb); clear hV gb nb)
    | (refine wpList_load_row rfl 43 (.tmp 10) rfl w12.heap.size rfl 43 (caseC v1 A1 m1 c1 (some ⟨w10.heap.size, 0, none⟩) 3 3 (some ⟨w5.heap.size + 1, 0, none⟩) 3 3).toArray (0, 0) _ (Q1.out.below' F2.out) Tryz.underlying43 rfl (case_info C1.out.r16 C1.out.c16 C1.out.n16) ?_))
  --MARK B2
  have L1 : Hid (CaseOK w16 v1 A1 m1 c1 (some ⟨w10.heap.size, 0, none⟩) 3 3 (some ⟨w5.heap.size + 1, 0, none⟩) 3 3) := C1.out.below (bel_on G1.out F2.out)
  have M1 : Hid (Blk w16 w12.heap.size 43 (caseC v1 A1 m1 c1 (some ⟨w10.heap.size, 0, none⟩) 3 3 (some ⟨w5.heap.size + 1, 0, none⟩) 3 3).toArray) := (Q1.out.below' F2.out)
  skip
  refine (Judge_any v1 A1 m1 c1 _ 3 3 (some ⟨w5.heap.size + 1, 0, none⟩) 3 3 _ L1.out (HT.out.below_ K16.out)).mono ?_
  rw [HV1.out]
  rintro e w17 ⟨rfl, hj1⟩
  have K17 : Hid (Below w.heap.size w w17) := bel_on K16.out hj1
  have B17 := Lib.hid hj1
  clear hj1
  have L2 : Hid (CaseOK w17 v2 A2 m2 c2 (some ⟨w13.heap.size, 0, none⟩) 3 3 (some ⟨w5.heap.size + 1 + 1, 0, none⟩) 3 3) := C2.out.below (bel_on G2.out B17.out)
  have M2 : Hid (Blk w17 w15.heap.size 43 (caseC v2 A2 m2 c2 (some ⟨w13.heap.size, 0, none⟩) 3 3 (some ⟨w5.heap.size + 1 + 1, 0, none⟩) 3 3).toArray) := (Q2.out.below' B17.out)
  go_wp2_with (first | (refine wpList_load_row rfl 43 (.tmp 11) rfl w15.heap.size rfl 43 (caseC v2 A2 m2 c2 (some ⟨w13.heap.size, 0, none⟩) 3 3 (some ⟨w5.heap.size + 1 + 1, 0, none⟩) 3 3).toArray (0, 0) _ M2.out Tryz.underlying43 rfl (case_info C2.out.r16 C2.out.c16 C2.out.n16) ?_))
  refine (Judge_any v2 A2 m2 c2 _ 3 3 (some ⟨w5.heap.size + 1 + 1, 0, none⟩) 3 3 _ L2.out (HT.out.below_ K17.out)).mono ?_
  rw [HV2.out]
  rintro e w18 ⟨rfl, hj2⟩
  have K18 : Hid (Below w.heap.size w w18) := bel_on K17.out hj2
  clear hj2
  --MARK 4
  go_wp2_with fail
  go_ret
  exact ⟨by simp, K18.out⟩
end Go.Proofs.YtchnaimpmegbkaaGreatDoor

/- Rows of bytes of one's own: stores. -/
namespace Go.Proofs.YtchnaimpmegbkaaGreatDoor
open Go.RowKit
set_option linter.unusedVariables false

theorem OB.room {B : Nat} {w : World} {A : Option Addr} {c : Nat} {l : List UInt8} (h : OB B w A c l) {i : Nat} (hi : i < l.length) : ∃ g, A = some ⟨g, 0, none⟩ ∧ B ≤ g ∧ g < w.heap.size ∧ w.cell? ⟨g, i, none⟩ = some (.int .u8 (bt l i : Int)) ∧ w.frozen? ⟨g, i, none⟩ = false ∧
    ∀ v : UInt8, OB B (w.setCell ⟨g, i, none⟩ (.int .u8 (v.toNat : Int))) A c (l.set i v) := by
  rcases h.2 with ⟨_, h0⟩ | ⟨g, cap, cur, hv, hB, hh, hnc, hm, hs, ht⟩
  · exact absurd h0 (by omega)
  · injection hv with h1 _ h3
    subst h1 h3
    have hb : Blk w g 5 cur := hh
    have hle : l.length ≤ cur.size := by rw [hs]; omega
    have hcur : cur[i]? = (cellsB l)[i]? := by
      rw [← ht, List.getElem?_take, if_pos (by omega)]; simp
    refine ⟨g, rfl, hB, hb.lt, ?_, hb.frozen i, fun v => ⟨by simp [cellsB], .inr ⟨g, _, cur.setIfInBounds i (.int .u8 (v.toNat : Int)), by rw [List.length_set], hB, hb.set_ i _, by rw [List.length_set]; exact hnc, hm, by rw [Array.size_setIfInBounds]; exact hs, ?_⟩⟩⟩
    · rw [hb.cell i, hcur, cellsB_get l i hi]
      simp [bt, List.getD, List.getElem?_eq_getElem hi]
    · rw [List.length_set, cellsB_set, ← ht, Array.toList_setIfInBounds, List.take_set]
/-- A store into another block leaves the row. -/
theorem OB.other {B : Nat} {w : World} {g c : Nat} {l : List UInt8} (h : OB B w (some ⟨g, 0, none⟩) c l) {p : Addr} (hp : g ≠ p.block) (u : Value) : OB B (w.setCell p u) (some ⟨g, 0, none⟩) c l := by
  refine World.ownsRow.kept h (⟨rfl, rfl, rfl, by simp, fun k hk hne => Below.heap_setCell w p u k (by simpa using hne)⟩ : w.grownBy (w.setCell p u) (some p.block)) ?_
  by_cases hv : (Value.slice (some ⟨g, 0, none⟩) l.length c).ownBlock = none
  · exact .inl hv
  · refine .inr fun e => hp ?_
    simp [Value.ownBlock] at e
    omega
theorem OB.drN {B : Nat} {w : World} {A : Option Addr} {c : Nat} {l : List UInt8} (h : OB B w A c l) (m : Nat) : OB B (w.drewN m) A c l := h
end Go.Proofs.YtchnaimpmegbkaaGreatDoor

/- Two different texts with one digest are found. -/
namespace Go.Proofs.YtchnaimpmegbkaaGreatDoor
open Go.RowKit
set_option linter.unusedVariables false
set_option linter.unusedSimpArgs false
attribute [local go_sem] equalIn_keys

/-- A list of texts in memory. -/
structure TRow where
  A : Option Addr
  c : Nat
  rs : List BRow
def TRow.v (r : TRow) : Value := .slice r.A r.rs.length r.c
end Go.Proofs.YtchnaimpmegbkaaGreatDoor

/- Two different texts with one digest among some texts: the top's search. -/
namespace Go.Proofs.YtchnaimpmegbkaaGreatDoor
open Go.RowKit
set_option linter.unusedVariables false
set_option linter.unusedSimpArgs false
attribute [local go_sem] equalIn_keys

end Go.Proofs.YtchnaimpmegbkaaGreatDoor

/- Regions that draw their order: bytes appended, two stores in either order. -/
namespace Go.Proofs.YtchnaimpmegbkaaGreatDoor
open Go.RowKit
set_option linter.unusedVariables false
set_option linter.unusedSimpArgs false

section
variable {P : Program} {md : Region.Mode} {ops : Array Oper} {Q : Exit → Act → World → Prop} {S : World → Prop} {fuel : Nat} {listed : Array Bool} {a : Act} {w : World}
/-- append to bytes that the call owns, the only operation that may come up. -/
theorem hd_appB (i : Nat) {oi : Oper} (s x : Operand) (hi : ops[i]? = some oi) (ho : oi.op = .call { callee := .builtin .append, args := #[s, x], argTypes := #[31, 31] }) (hg : oi.guard = none) (hr : Region.ready md ops listed = [i])
    (B : Nat) (A : Option Addr) (n c : Nat) (l : List UInt8) (hn : l.length = n) (hs : a.eval s = .slice A n c) (hown : OB B w A c l)
    (X : Option Addr) (m d : Nat) (news : List UInt8) (hm : news.length = m) (hx : a.eval x = .slice X m d) (hsrc : Src w 1 X m (cellsB news)) (hlen : n + m ≤ 140737488351232) (hB : B ≤ w.heap.size)
    (h : ∀ A' c' w', OB B w' A' c' (l ++ news) → Below B w w' → S w' ∧ wpAnyH Tryz.prog md ops Q S fuel (listed.setIfInBounds i true) (a.put oi.dst (.slice A' (n + m) c')) w') : wpAnyH Tryz.prog md ops Q S (fuel + 1) listed a w := by
  obtain ⟨i0, hi0, hz0, hz1, hz2⟩ := info_parts u8_info'
  subst hn hm
  obtain ⟨A', c', w', hrun, h2, h3, h4⟩ := run_append_src (P := Tryz.prog) w B 31 oi.type 5 i0 (.int .u8 0) 1 1 Tryz.underlying31 hi0 hz0 hz1 hz2 rfl (by omega) A l.length c (cellsB l) hown X news.length d (cellsB news) hsrc (cellsB_one _) (by simp only [maxLen]; omega) (by omega) hB
  refine hd_one i hi hg hr ?_
  refine Lib.wp_append_run w s x 31 31 ho _ _ hs hx _ w' hrun ?_
  refine h A' c' w' ?_ (grown_below (Below.refl _ _) hown h3 hB (Nat.le_refl _))
  unfold OB
  rw [cellsB_append, List.length_append]
  exact h2
/-- append of one row to rows that the call owns, the only operation that may come up. -/
theorem hd_appR (i : Nat) {oi : Oper} (s x : Operand) (hi : ops[i]? = some oi) (ho : oi.op = .call { callee := .builtin .append, args := #[s, x], argTypes := #[30, 30] }) (hg : oi.guard = none) (hr : Region.ready md ops listed = [i])
    (B : Nat) (A : Option Addr) (n c : Nat) (rs : List BRow) (hn : rs.length = n) (hs : a.eval s = .slice A n c) (hown : RO B w A c rs)
    (X : Option Addr) (d : Nat) (r : BRow) (hx : a.eval x = .slice X 1 d) (hsrc : Src w 1 X 1 [r.v]) (hlen : n ≤ 1000000) (hB : B ≤ w.heap.size)
    (h : ∀ A' c' w', RO B w' A' c' (rs ++ [r]) → Below B w w' → w.grownBy w' (Value.ownBlock (.slice A n c)) → S w' ∧ wpAnyH Tryz.prog md ops Q S fuel (listed.setIfInBounds i true) (a.put oi.dst (.slice A' (n + 1) c')) w') : wpAnyH Tryz.prog md ops Q S (fuel + 1) listed a w := by
  obtain ⟨i0, hi0, hz0, hz1, hz2⟩ := info_parts rows_info
  subst hn
  obtain ⟨A', c', w', hrun, h2, h3, h4⟩ := run_append_src (P := Tryz.prog) w B 30 oi.type 31 i0 (.slice none 0 0) 1 24 Tryz.underlying30 hi0 hz0 hz1 hz2 rfl (by omega) A rs.length c (rs.map BRow.v) hown X 1 d [r.v] hsrc (by intro u hu; rw [List.mem_singleton.1 hu]; rfl) (by simp only [maxLen]; omega) (by omega) hB
  refine hd_one i hi hg hr ?_
  refine Lib.wp_append_run w s x 30 30 ho _ _ hs hx _ w' hrun ?_
  refine h A' c' w' ?_ (grown_below (Below.refl _ _) hown h3 hB (Nat.le_refl _)) h3
  unfold RO
  rw [List.map_append, List.length_append]
  exact h2
end
theorem cell_up {w W : World} (hb : Below w.heap.size w W) {p : Addr} {v : Value} (h : w.cell? p = some v) : W.cell? p = some v := (hb.cell (World.block_lt_of_cell? _ _ h)).trans h
end Go.Proofs.YtchnaimpmegbkaaGreatDoor

/- Whether there is a half of one length for each user: the top's check. -/
namespace Go.Proofs.YtchnaimpmegbkaaGreatDoor
open Go.RowKit
set_option linter.unusedVariables false
set_option linter.unusedSimpArgs false

/-- A half of one length for each user of a valid code of steps. -/
def sizedB (s : StV) (hs : List (List UInt8)) : Bool := s.ok && (decide ((hs.length : Int) = s.u) && (decide (1 ≤ (hd hs).length) && (decide ((hd hs).length ≤ 64) && hs.all fun h => wordB h (hd hs).length)))
theorem sizedB_iff {s : StV} {hs : List (List UInt8)} : sizedB s hs = true ↔ s.ok = true ∧ (hs.length : Int) = s.u ∧ 1 ≤ (hd hs).length ∧ (hd hs).length ≤ 64 ∧ ∀ h ∈ hs, wordB h (hd hs).length = true := by
  simp [sizedB, List.all_eq_true]
theorem sizedB_no {s : StV} {hs : List (List UInt8)} (h : ¬ (s.ok = true ∧ (hs.length : Int) = s.u ∧ 1 ≤ (hd hs).length ∧ (hd hs).length ≤ 64 ∧ ∀ h ∈ hs, wordB h (hd hs).length = true)) : sizedB s hs = false := by
  cases e : sizedB s hs
  · rfl
  · exact absurd (sizedB_iff.1 e) h
set_option maxHeartbeats 4000000 in
set_option maxRecDepth 100000 in
theorem sized_any (s : StV) (A : Option Addr) (c : Nat) (rs : List BRow) (w0 : World) {n : Nat} (hn : rs.length = n) (h0 : StOK w0 s) (hR0 : RR w0 A c rs) :
    Calls Tryz.prog 6 #[.agg s.cs.toArray, .slice A n c] w0 fun e w' => e = .returned (.bool (sizedB s (rs.map BRow.l))) ∧ Below w0.heap.size w0 w' := by
  have hk := h0.k16
  obtain ⟨w, hW0⟩ : ∃ W : World, W = w0.alloc (.cells s.cs.toArray 29) := ⟨_, rfl⟩
  have b0 : Hid (Below w0.heap.size w0 w) := by unfold Hid; rw [hW0]; exact alloc_bel _ _
  have HX : Hid (∀ W, Below w.heap.size w W → Blk W w0.heap.size 29 s.cs.toArray) := fun W hW => Blk.below' (by rw [hW0]; exact Blk.new w0 _ _) hW
  have h := h0.below b0.out
  have HW0 := Lib.hid hW0
  have HIN := Lib.hid (StV.info (s := s) hk)
  have K0 : Hid (Below w.heap.size w w) := Below.refl _ _
  have hR := hR0.below b0.out
  have HVS : Hid (∀ W, Below w.heap.size w W → Calls Tryz.prog 24 #[.agg s.cs.toArray] W fun e w' => e = .returned (.bool s.ok) ∧ Below W.heap.size W w') := fun W hW => refValidSteps_any s W (h.below hW)
  cases hok : s.ok
  · have HS : Hid (sizedB s (rs.map BRow.l) = false) := sizedB_no fun g => by rw [hok] at g; cases g.1
    rw [hok] at HVS
    generalize s.cs.toArray = cs at *
    clear hok hW0 h h0 hk hR hR0
    go_enter Tryz.func6, Tryz.ntmps6
    go_wp2_with (first | (rw [← HW0.out]) | (refine wpList_load_row rfl 29 (.tmp 2) rfl w0.heap.size rfl 29 cs (0, 0) _ (HX.out _ K0.out) Tryz.underlying29 rfl HIN.out ?_))
    refine (HVS.out _ K0.out).mono ?_
    rintro e w1 ⟨rfl, hb1⟩
    have K1 : Hid (Below w.heap.size w w1) := bel_on K0.out hb1
    clear hb1
    go_wp2_with fail
    go_ret
    exact ⟨by rw [HS.out]; rfl, bel_on b0.out K1.out⟩
  rw [hok] at HVS
  have HC0 : Hid (∀ W, Below w.heap.size w W → W.cell? ⟨w0.heap.size, 0, none⟩ = some (.int .i64 s.u)) := fun W hW => (StV.cells hk (HX.out W hW)).1
  obtain ⟨⟨q1, q2, q3, q4⟩, -⟩ := StV.parts hok
  have hnl : (n : Int) ≤ 140737488351232 := by have := hR.1.len; omega
  by_cases hu : s.u = (n : Int)
  · rw [hu] at HC0
    have hnn : ¬ ((n : Int) ≠ (n : Int)) := by simp
    have hni : (n : Int) ≤ 16 := by omega
    have hnp : (0 : Int) < n := by omega
    obtain ⟨b, off, r0, rfl, hb, hr0, hc0, hR0'⟩ := hR.at_ (i := 0) (by omega)
    rw [Nat.add_zero] at hc0
    have e0 : Hid (hd (rs.map BRow.l) = r0.l) := row_l hr0
    have hl0 : (r0.l.length : Int) ≤ 140737488351232 := by have := hR0'.len; omega
    have HC1 : Hid (∀ W, Below w.heap.size w W → W.cell? ⟨b, off, none⟩ = some (.slice r0.A r0.l.length r0.c)) := fun W hW => (hW.cell (p := ⟨b, off, none⟩) hb).trans hc0
    obtain ⟨l0, hl⟩ : ∃ l0, r0.l.length = l0 := ⟨_, rfl⟩
    have HL := Lib.hid hl
    rw [hl] at HC1 hl0
    have HN := Lib.hid hn
    have HR := Lib.hid hR
    have HK := Lib.hid hok
    have HU := Lib.hid hu
    generalize s.cs.toArray = cs at *
    clear hok hW0 h h0 hk hR hR0 hR0' hb hc0 hr0 hl hu q1 q2 q3 q4 hn
    by_cases hl1 : l0 < 1
    · have HS : Hid (sizedB s (rs.map BRow.l) = false) := sizedB_no fun g => by
        have := g.2.2.1
        rw [e0.out, HL.out] at this
        omega
      have t1 : decide ((l0 : Int) < 1) = true := by simp; omega
      have t1' : decide (l0 < 1) = true := by simp; omega
      go_enter Tryz.func6, Tryz.ntmps6
      go_wp2_with (first | (rw [← HW0.out]) | (refine wpList_load_row rfl 29 (.tmp 2) rfl w0.heap.size rfl 29 cs (0, 0) _ (HX.out _ K0.out) Tryz.underlying29 rfl HIN.out ?_))
      refine (HVS.out _ K0.out).mono ?_
      rintro e w1 ⟨rfl, hb1⟩
      have K1 : Hid (Below w.heap.size w w1) := bel_on K0.out hb1
      have c0 := HC0.out _ K1.out
      have c1 := HC1.out _ K1.out
      clear hb1
      go_wp2_with fail
      go_ret
      exact ⟨by rw [HS.out]; rfl, bel_on b0.out K1.out⟩
    have t1 : decide ((l0 : Int) < 1) = false := by simp; omega
    have t1' : decide (l0 < 1) = false := by simp; omega
    by_cases hl2 : 64 < l0
    · have HS : Hid (sizedB s (rs.map BRow.l) = false) := sizedB_no fun g => by
        have := g.2.2.2.1
        rw [e0.out, HL.out] at this
        omega
      have t2 : decide ((64 : Int) < l0) = true := by simp; omega
      have t2' : decide (64 < l0) = true := by simp; omega
      go_enter Tryz.func6, Tryz.ntmps6
      go_wp2_with (first | (rw [← HW0.out]) | (refine wpList_load_row rfl 29 (.tmp 2) rfl w0.heap.size rfl 29 cs (0, 0) _ (HX.out _ K0.out) Tryz.underlying29 rfl HIN.out ?_))
      refine (HVS.out _ K0.out).mono ?_
      rintro e w1 ⟨rfl, hb1⟩
      have K1 : Hid (Below w.heap.size w w1) := bel_on K0.out hb1
      have c0 := HC0.out _ K1.out
      have c1 := HC1.out _ K1.out
      clear hb1
      go_wp2_with fail
      go_ret
      exact ⟨by rw [HS.out]; rfl, bel_on b0.out K1.out⟩
    have t2 : decide ((64 : Int) < l0) = false := by simp; omega
    have t2' : decide (64 < l0) = false := by simp; omega
    have HG : Hid (1 ≤ l0 ∧ l0 ≤ 64) := ⟨by omega, by omega⟩
    clear hl1 hl2
    go_enter Tryz.func6, Tryz.ntmps6
    go_wp2_with (first | (rw [← HW0.out]) | (refine wpList_load_row rfl 29 (.tmp 2) rfl w0.heap.size rfl 29 cs (0, 0) _ (HX.out _ K0.out) Tryz.underlying29 rfl HIN.out ?_))
    refine (HVS.out _ K0.out).mono ?_
    rintro e w1 ⟨rfl, hb1⟩
    have K1 : Hid (Below w.heap.size w w1) := bel_on K0.out hb1
    have c0 := HC0.out _ K1.out
    have c1 := HC1.out _ K1.out
    clear hb1
    go_wp2_with fail
    go_loopw [5] (fun vk wr => ∃ k : Nat, k ≤ n ∧ vk = .int .i64 k ∧ Hid (∀ j, j < k → wordB ((rs.map BRow.l).getD j []) l0 = true) ∧ Below w.heap.size w wr) (fun vk _ => n - (intOf vk).toNat)
    case atStart => exact ⟨0, by omega, rfl, fun j hj => absurd hj (by omega), K1.out⟩
    case round =>
      obtain ⟨k, hk, rfl, HK2, hbel⟩ := hrel
      have c1 := HC1.out _ hbel
      by_cases hkn : k < n
      · obtain ⟨b', off', r, e', hb', hr, hcr, hRr⟩ := (HR.out.below hbel).at_ (i := k) (by have := HN.out; omega)
        injection e' with e'
        injection e' with e1 e2
        subst e1 e2
        have hrl : (rs.map BRow.l).getD k [] = r.l := row_l hr
        have hrm : r.l ∈ rs.map BRow.l := List.mem_map.2 ⟨r, List.mem_of_getElem? hr, rfl⟩
        have hrlen : (r.l.length : Int) ≤ 140737488351232 := by have := hRr.len; omega
        have hki : (k : Int) < n := by omega
        have hk0 : (0 : Int) ≤ k := by omega
        cases hw : wordB r.l l0 with
        | true =>
          have HK3 : Hid (∀ j, j < k + 1 → wordB ((rs.map BRow.l).getD j []) l0 = true) := fun j hj => by
            rcases Nat.lt_or_ge j k with h' | h'
            · exact HK2.out j h'
            · rw [show j = k from by omega, hrl]; exact hw
          have HIW : Hid (∀ nq, Calls Tryz.prog 7 #[.slice r.A r.l.length r.c, .int .i64 (l0 : Int)] (wr.drewN nq) fun e w' => e = .returned (.bool true) ∧ wr.drewN nq = w') := fun nq => by
            have h1 := refIsWord_any r.A r.c r.l l0 _ rfl (hRr.drewN nq) (by omega)
            rw [hw] at h1
            exact h1
          clear hw hrl hr hrm hRr
          go_wp2_with fail
          go_quiet ((go_at_call 7; exact quiet_left' (HIW.out _)))
          go_wp2_with fail
          go_roundw
          case rel => exact ⟨k + 1, by omega, by go_num, HK3, below_drewN hbel _⟩
          case measure => simp [intOf]; omega
        | false =>
          have HS : Hid (sizedB s (rs.map BRow.l) = false) := sizedB_no fun g => by
            have := g.2.2.2.2 _ hrm
            rw [e0.out, HL.out, hw] at this
            cases this
          have HIW : Hid (∀ nq, Calls Tryz.prog 7 #[.slice r.A r.l.length r.c, .int .i64 (l0 : Int)] (wr.drewN nq) fun e w' => e = .returned (.bool false) ∧ wr.drewN nq = w') := fun nq => by
            have h1 := refIsWord_any r.A r.c r.l l0 _ rfl (hRr.drewN nq) (by omega)
            rw [hw] at h1
            exact h1
          clear hw hrl hr hrm hRr
          go_wp2_with fail
          go_quiet ((go_at_call 7; exact quiet_left' (HIW.out _)))
          go_wp2_with fail
          go_ret
          exact ⟨by rw [HS.out]; rfl, bel_on b0.out (below_drewN hbel _)⟩
      · obtain rfl : k = n := by omega
        have hx5 : ¬ ((k : Int) < (k : Int)) := by omega
        have HS : Hid (sizedB s (rs.map BRow.l) = true) := sizedB_iff.2 ⟨HK.out, by rw [List.length_map, HN.out, HU.out], by rw [e0.out, HL.out]; exact HG.out.1, by rw [e0.out, HL.out]; exact HG.out.2, fun h hm => by
          obtain ⟨j, hj, rfl⟩ := List.getElem_of_mem hm
          have := HK2.out j (by rw [List.length_map, HN.out] at hj; exact hj)
          rw [List.getD_eq_getElem?_getD, List.getElem?_eq_getElem hj] at this
          rw [e0.out, HL.out]
          exact this⟩
        go_wp2_with fail
        go_ret
        exact ⟨by rw [HS.out]; rfl, bel_on b0.out hbel⟩
  · have HS : Hid (sizedB s (rs.map BRow.l) = false) := sizedB_no fun g => by
      have := g.2.1
      rw [List.length_map, hn] at this
      exact hu this.symm
    obtain ⟨U, hU⟩ : ∃ q, s.u = q := ⟨_, rfl⟩
    rw [hU] at HC0 hu q1 q2
    have t1 : decide ((n : Int) = U) = false := by simp; omega
    have t2 : ((n : Int) == U) = false := by simp; omega
    have t3 : ((n : Int) != U) = true := by simp; omega
    have t4 : ¬ (n : Int) = U := by omega
    generalize s.cs.toArray = cs at *
    clear hok hW0 h h0 hk hR hR0 hn hU hu
    go_enter Tryz.func6, Tryz.ntmps6
    go_wp2_with (first | (rw [← HW0.out]) | (refine wpList_load_row rfl 29 (.tmp 2) rfl w0.heap.size rfl 29 cs (0, 0) _ (HX.out _ K0.out) Tryz.underlying29 rfl HIN.out ?_))
    refine (HVS.out _ K0.out).mono ?_
    rintro e w1 ⟨rfl, hb1⟩
    have K1 : Hid (Below w.heap.size w w1) := bel_on K0.out hb1
    have c0 := HC0.out _ K1.out
    clear hb1
    go_wp2_with fail
    go_ret
    exact ⟨by rw [HS.out]; rfl, bel_on b0.out K1.out⟩
end Go.Proofs.YtchnaimpmegbkaaGreatDoor

/- What a coalition can make: the top's copy brought to what its words have in common. -/
namespace Go.Proofs.YtchnaimpmegbkaaGreatDoor
open Go.RowKit
set_option linter.unusedVariables false
set_option linter.unusedSimpArgs false

set_option maxHeartbeats 16000000 in
set_option maxRecDepth 100000 in
theorem possible_any (A1 : Option Addr) (ca : Nat) (rs : List BRow) (Y : Option Addr) (d : Nat) (y : List UInt8) (w : World) (ws : List (List UInt8)) {xl ny : Nat} (hK : rs.length = xl) (hL : rs.map BRow.l = ws) (hR : RR w A1 ca rs) (hall : ∀ r ∈ rs, r.l.length = ny ∧ ∀ i, bt r.l i ≤ 1) (hyl : y.length = ny) (hy : BR w Y d y) (hx1 : 0 < xl) (hx2 : xl ≤ 64) (hn1 : 1 ≤ ny) (hn2 : ny ≤ 2000) :
    Calls Tryz.prog 16 #[.slice A1 xl ca, .slice Y ny d] w fun e w' => (∃ A c, e = .returned (.slice A ny c) ∧ OB w.heap.size w' A c (bring ws y ny ny)) ∧ Below w.heap.size w w' := by
  have hni : (ny : Int) ≤ 2000 := by omega
  have hxi : (xl : Int) ≤ 64 := by omega
  have hxpi : (0 : Int) < xl := by omega
  have HYL := Lib.hid hyl
  have H_Y := Lib.hid hy
  have HK := Lib.hid hK
  have HL := Lib.hid hL
  have HXP := Lib.hid hx1
  have HN1 : Hid (1 ≤ ny ∧ ny ≤ 2000) := ⟨hn1, hn2⟩
  have HRLN := Lib.hid hall
  have HRR : Hid (∀ W, Below w.heap.size w W → RR W A1 ca rs) := fun W hW => RR.below hR hW
  have HBZ : Hid (bring ws y ny 0 = y) := bring_zero ws HYL.out
  have HWN : Hid (ws.length = xl) := by unfold Hid; rw [← hL, List.length_map]; exact hK
  obtain ⟨b, off, rfl, -⟩ : ∃ b off, A1 = some ⟨b, off, none⟩ ∧ True := by
    obtain ⟨b, off, r, e, -, -, -, -⟩ := (HRR.out _ (Below.refl _ _)).at_ (i := 0) (by rw [HK.out]; exact HXP.out)
    exact ⟨b, off, e, trivial⟩
  have HROW : Hid (∀ k i, k < xl → i < ny → ∃ p o cc, ∀ W, Below w.heap.size w W → W.cell? ⟨b, off + k, none⟩ = some (.slice (some ⟨p, o, none⟩) ny cc) ∧ W.cell? ⟨p, o + i, none⟩ = some (.int .u8 (bt (ws.getD k []) i : Int)) ∧ bt (ws.getD k []) i ≤ 1) := fun k i hk hi => by
    obtain ⟨b', off', r, e, hb, hr, hcr, hR⟩ := (HRR.out _ (Below.refl _ _)).at_ (i := k) (by rw [HK.out]; exact hk)
    injection e with e
    injection e with e1 e2
    subst e1 e2
    obtain ⟨hl1, hl2⟩ := HRLN.out r (List.mem_of_getElem? hr)
    have hlr := row_l hr
    rw [HL.out] at hlr
    obtain ⟨p, o, e', hp, hcb⟩ := hR.at_ (i := i) (by rw [hl1]; exact hi)
    rw [e', hl1] at hcr
    refine ⟨p, o, r.c, fun W hW => ⟨(hW.cell (World.block_lt_of_cell? _ _ hcr)).trans hcr, ?_, by rw [hlr]; exact hl2 i⟩⟩
    rw [hlr]
    exact (hW.cell (World.block_lt_of_cell? _ _ hcb)).trans hcb
  clear hyl hy hK hL hR hall hx1 hx2 hn1 hn2
  go_enter Tryz.func16, Tryz.ntmps16
  go_wp2_with (at_builtin; refine wpList_append_bytes _ rfl (.tmp 9) (.tmp 10) rfl w.heap.size (some ⟨w.heap.size, 0, none⟩) 0 0 [] rfl rfl (OB.lit0 _ _ (Nat.le_refl _)) Y ny d y HYL.out rfl ((H_Y.out.below (alloc_bel _ _)).src HYL.out) (by omega) (by simp) ?_; intro A5 c5 w5 hon5 hbl5 hg5; clear hg5; have E5 : Hid (Below w.heap.size w w5) := (alloc_bel w _).trans hbl5; have P5 : Hid (OB w.heap.size w5 A5 c5 y) := hon5; clear hon5 hbl5; simp only [Nat.zero_add])
  obtain ⟨gz, rfl, gz1, gz2, -, -, -⟩ := P5.out.room (i := 0) (by rw [HYL.out]; have := HN1.out; omega)
  have HGZ : Hid (w.heap.size ≤ gz) := gz1
  clear gz1 gz2
  go_loopw [6] (fun vi wr2 => ∃ i : Nat, i ≤ ny ∧ vi = .int .i64 (i : Int) ∧ Hid (OB w.heap.size wr2 (some ⟨gz, 0, none⟩) c5 (bring ws y ny i)) ∧ Below w.heap.size w wr2) (fun vi _ => ny - (intOf vi).toNat)
  case atStart => exact ⟨0, by omega, rfl, by rw [HBZ.out]; exact P5.out, E5.out⟩
  case round =>
    obtain ⟨i, hi, rfl, HO2, hbel2⟩ := hrel
    obtain ⟨wr2, hwr2⟩ : ∃ W, W = wr := ⟨_, rfl⟩
    subst hwr2
    by_cases hin : i < ny
    · have hii : (i : Int) < ny := by omega
      have hi0 : (0 : Int) ≤ i := by omega
      go_wp2_with fail
      go_loopw [7, 8] (fun vs vk wr3 => ∃ k : Nat, k ≤ xl ∧ vk = .int .i64 (k : Int) ∧ vs = .bool (agreeK ws i k) ∧ Hid (OB w.heap.size wr3 (some ⟨gz, 0, none⟩) c5 (bring ws y ny i)) ∧ Below w.heap.size w wr3) (fun _ vk _ => xl - (intOf vk).toNat)
      case atStart => exact ⟨0, by omega, rfl, rfl, HO2.out, hbel2⟩
      case round =>
        obtain ⟨k, hk, rfl, rfl, HO3, hbel3⟩ := hrel
        obtain ⟨wr3, hwr3⟩ : ∃ W, W = wr := ⟨_, rfl⟩
        subst hwr3
        obtain ⟨p0, o0, cc0, hc0⟩ := HROW.out 0 i HXP.out hin
        obtain ⟨c00, b00, hx0⟩ := hc0 _ hbel3
        rw [Nat.add_zero] at c00
        have HDH : Hid (ws.getD 0 [] = hd ws) := rfl
        rw [HDH.out] at b00 hx0
        clear hc0
        by_cases hkn : k < xl
        · have hki : (k : Int) < xl := by omega
          have hk0 : (0 : Int) ≤ k := by omega
          obtain ⟨pk, ok, ck, hck⟩ := HROW.out k i hkn hin
          obtain ⟨ck0, bk0, hxk⟩ := hck _ hbel3
          clear hck
          obtain ⟨x, hbx⟩ : ∃ q, bt (ws.getD k []) i = q := ⟨_, rfl⟩
          obtain ⟨x0, hb0⟩ : ∃ q, bt (hd ws) i = q := ⟨_, rfl⟩
          rw [hbx] at bk0 hxk
          rw [hb0] at b00 hx0
          have HBX := Lib.hid hbx
          have HB0X := Lib.hid hb0
          have hx1 : (x : Int) ≤ 1 := by omega
          have hx2 : (x0 : Int) ≤ 1 := by omega
          obtain ⟨ag, hag⟩ : ∃ q, agreeK ws i k = q := ⟨_, rfl⟩
          rw [hag]
          have HAG := Lib.hid hag
          clear hag hbx hb0 hxk hx0
          cases ag
          · have HS1 : Hid (agreeK ws i (k + 1) = false) := by unfold Hid; rw [agreeK, HAG.out]; rfl
            go_wp2_with fail
            go_quiet (fail)
            go_wp2_with fail
            go_roundw
            case rel => exact ⟨k + 1, by omega, by go_num, by rw [HS1.out], HO3.out.drN _, below_drewN hbel3 _⟩
            case measure => simp [intOf]; omega
          · by_cases hxx : x = x0
            · have HS1 : Hid (agreeK ws i (k + 1) = true) := by unfold Hid; rw [agreeK, HAG.out, HBX.out, HB0X.out, hxx]; simp
              subst hxx
              clear hx1 hx2 hin hkn
              go_wp2_with fail
              go_quiet (fail)
              go_wp2_with fail
              go_roundw
              case rel => exact ⟨k + 1, by omega, by go_num, by rw [HS1.out], HO3.out.drN _, below_drewN hbel3 _⟩
              case measure => simp [intOf]; omega
            · have HS1 : Hid (agreeK ws i (k + 1) = false) := by unfold Hid; rw [agreeK, HAG.out, HBX.out, HB0X.out]; simp [hxx]
              have te1 : decide ((x : Int) = (x0 : Int)) = false := by simp; omega
              have te2 : ((x : Int) == (x0 : Int)) = false := by simp; omega
              have te3 : decide (x = x0) = false := by simp; omega
              have te4 : (x == x0) = false := by simp; omega
              clear hx1 hx2 hin hkn hxx
              go_wp2_with fail
              go_quiet (fail)
              go_wp2_with fail
              go_roundw
              case rel => exact ⟨k + 1, by omega, by go_num, by rw [HS1.out], HO3.out.drN _, below_drewN hbel3 _⟩
              case measure => simp [intOf]; omega
        · obtain rfl : k = xl := by omega
          have hx6 : ¬ ((k : Int) < (k : Int)) := by omega
          clear hkn hk
          cases hag : agreeK ws i k
          · have HKP : Hid (bring ws y ny i = bring ws y ny (i + 1)) := bring_keep y ny i (by rw [HWN.out]; exact hag)
            clear hag hin
            go_wp2_with fail
            go_roundw
            case rel => exact ⟨i + 1, by omega, by go_num, by rw [← HKP.out]; exact HO3.out, hbel3⟩
            case measure => simp [intOf]; omega
          · have HKP : Hid ((bring ws y ny i).set i ((hd ws).getD i 0) = bring ws y ny (i + 1)) := bring_set y ny i hin (by rw [HWN.out]; exact hag)
            obtain ⟨gz', e1, -, -, kz, kf, hz3⟩ := HO3.out.room (i := i) (by rw [bring_len]; exact hin)
            injection e1 with e1
            injection e1 with e1 _
            subst e1
            have hz4 := hz3 ((hd ws).getD i 0)
            rw [HKP.out] at hz4
            have HZ4 : Hid (OB w.heap.size (wr3.setCell ⟨gz, i, none⟩ (.int .u8 (bt (hd ws) i : Int))) (some ⟨gz, 0, none⟩) c5 (bring ws y ny (i + 1))) := hz4
            have DZ4 : Hid (Below w.heap.size w (wr3.setCell ⟨gz, i, none⟩ (.int .u8 (bt (hd ws) i : Int)))) := hbel3.setCell (p := ⟨gz, i, none⟩) HGZ.out _
            obtain ⟨x0, hb0⟩ : ∃ q, bt (hd ws) i = q := ⟨_, rfl⟩
            rw [hb0] at b00 hx0 HZ4 DZ4
            have hx2 : (x0 : Int) ≤ 1 := by omega
            clear hag hin hz3 hz4 hb0 hx0
            go_wp2_with fail
            go_roundw
            case rel => exact ⟨i + 1, by omega, by go_num, HZ4.out, DZ4.out⟩
            case measure => simp [intOf]; omega
    · obtain rfl : i = ny := by omega
      have hx5 : ¬ ((i : Int) < (i : Int)) := by omega
      go_wp2_with fail
      go_ret
      exact ⟨⟨_, _, rfl, HO2.out⟩, hbel2⟩
end Go.Proofs.YtchnaimpmegbkaaGreatDoor

/- In how many places two lists of symbols agree: the top's count. -/
namespace Go.Proofs.YtchnaimpmegbkaaGreatDoor
open Go.RowKit
set_option linter.unusedVariables false
set_option linter.unusedSimpArgs false

set_option maxHeartbeats 4000000 in
set_option maxRecDepth 100000 in
theorem agreeing_any (a b : List UInt8) (A : Option Addr) (c : Nat) (B : Option Addr) (d : Nat) (w : World) {n : Nat} (hn : a.length = n) (hm : b.length = n) (h1 : 1 ≤ n) (ha : BR w A c a) (hb : BR w B d b) :
    Calls Tryz.prog 19 #[.slice A n c, .slice B n d] w fun e w' => e = .returned (.int .i64 (agreeN a b n : Int)) ∧ Below w.heap.size w w' := by
  have hnl : (n : Int) ≤ 140737488351232 := by have := ha.len; omega
  obtain ⟨pa, oa, rfl, -, -⟩ := ha.at_ (i := 0) (by omega)
  obtain ⟨pb, ob, rfl, -, -⟩ := hb.at_ (i := 0) (by omega)
  have HCA : Hid (∀ W, Below w.heap.size w W → ∀ i, i < n → W.cell? ⟨pa, oa + i, none⟩ = some (.int .u8 (bt a i : Int))) := fun W hW i hi => by
    obtain ⟨b', off', e, _, hc⟩ := (ha.below hW).at_ (i := i) (by omega)
    injection e with e
    injection e with e1 e2
    subst e1 e2
    exact hc
  have HCB : Hid (∀ W, Below w.heap.size w W → ∀ i, i < n → W.cell? ⟨pb, ob + i, none⟩ = some (.int .u8 (bt b i : Int))) := fun W hW i hi => by
    obtain ⟨b', off', e, _, hc⟩ := (hb.below hW).at_ (i := i) (by omega)
    injection e with e
    injection e with e1 e2
    subst e1 e2
    exact hc
  clear ha hb hn hm h1
  go_enter Tryz.func19, Tryz.ntmps19
  go_wp2_with fail
  go_loopw [5, 6] (fun vs vi wr => ∃ i : Nat, i ≤ n ∧ vi = .int .i64 (i : Int) ∧ vs = .int .i64 (agreeN a b i : Int) ∧ Below w.heap.size w wr) (fun _ vi _ => n - (intOf vi).toNat)
  case atStart => exact ⟨0, by omega, rfl, rfl, Below.refl _ _⟩
  case round =>
    obtain ⟨i, hi, rfl, rfl, hbel⟩ := hrel
    have hal := agreeN_le a b i
    by_cases hin : i < n
    · have hx := HCA.out _ hbel i hin
      have hy := HCB.out _ hbel i hin
      have hii : (i : Int) < n := by omega
      have hi0 : (0 : Int) ≤ i := by omega
      have HST := Lib.hid (agreeN_yes (x := a) (y := b) (i := i))
      have HSF := Lib.hid (agreeN_no (x := a) (y := b) (i := i))
      obtain ⟨s, hs⟩ : ∃ s, agreeN a b i = s := ⟨_, rfl⟩
      rw [hs] at HST HSF hal ⊢
      obtain ⟨x, hbx⟩ : ∃ q, bt a i = q := ⟨_, rfl⟩
      obtain ⟨y, hby⟩ : ∃ q, bt b i = q := ⟨_, rfl⟩
      rw [hbx] at hx HST HSF
      rw [hby] at hy HST HSF
      clear hs hbx hby hin
      by_cases he : x = y
      · subst he
        have HE := Lib.hid (HST.out rfl)
        clear HST HSF
        go_wp2_with fail
        go_region
        all_goals
          go_wp2_with fail
          go_roundw
        all_goals first
          | exact ⟨i + 1, by omega, by go_num, by rw [HE.out]; go_num, hbel.drew⟩
          | (simp [intOf]; omega)
      · have HE := Lib.hid (HSF.out he)
        have hd : ¬ (x : Int) = (y : Int) := by omega
        clear HST HSF
        generalize (x : Int) = z at hx hd
        generalize (y : Int) = z' at hy hd
        go_wp2_with fail
        go_region
        all_goals
          go_wp2_with fail
          go_roundw
        all_goals first
          | exact ⟨i + 1, by omega, by go_num, by rw [HE.out], hbel.drew⟩
          | (simp [intOf]; omega)
    · obtain rfl : i = n := by omega
      have hx5 : ¬ ((i : Int) < (i : Int)) := by omega
      obtain ⟨z, hz⟩ : ∃ z, agreeN a b i = z := ⟨_, rfl⟩
      have HZ := Lib.hid hz
      rw [hz] at hal ⊢
      clear hz
      go_wp2_with fail
      go_ret
      exact ⟨by rw [HZ.out]; rfl, hbel⟩
end Go.Proofs.YtchnaimpmegbkaaGreatDoor

/- The law TopFramed: what a coalition makes of words with halves, in plain words. -/
namespace Go.Proofs.YtchnaimpmegbkaaGreatDoor
open Go.RowKit
set_option linter.unusedVariables false
set_option linter.unusedSimpArgs false

theorem slice_bytes_to_ (W : World) (A : Option Addr) (m c n : Nat) (h : n ≤ c) :
    (Instr.slice 31 (.slice A m c) none (some (.int .i64 (n : Int))) none).run Tryz.prog W = .ok (.slice A n c) W := by
  have e : Tryz.prog.elem 31 = 5 := by kernel_rfl
  rw [run_slice_h (P := Tryz.prog) (w := W) 31 A m c (by rw [e]; exact Tryz.underlying31) .i64 n (by omega) (by omega), e, Tryz.sizeOf5 W]
  simp [Result.andThen, sliced]
  intro _
  cases A <;> simp [Addr.add]
theorem BR.take_ {w : World} {A : Option Addr} {c : Nat} {l : List UInt8} (h : BR w A c l) (n : Nat) (hn : n ≤ l.length) : BR w A c (l.take n) := by
  have hle := Rd.le h
  have hl := Rd.len h
  have hcp := Rd.cap h
  refine ⟨⟨by rw [cellsB_length, Nat.mul_one], by rw [List.length_take]; omega, hcp, by rw [List.length_take]; omega⟩, fun hne => ?_⟩
  rw [List.length_take] at hne
  obtain ⟨b, off, e, hb, hc⟩ := h.2 (by omega)
  refine ⟨b, off, e, hb, fun j v hv => hc j v ?_⟩
  simp only [cellsB, List.map_take, List.getElem?_take] at hv
  split at hv
  · exact hv
  · cases hv
theorem copy_take_ {y : List UInt8} {a b : Nat} (h : copyB y (a + b) = true) : copyB (y.take a) a = true := by
  unfold copyB symB at *
  simp only [Bool.and_eq_true, decide_eq_true_eq, List.all_eq_true] at *
  exact ⟨by rw [List.length_take]; omega, fun x hx => h.2 x (List.mem_of_mem_take hx)⟩
theorem copy_drop_ {y : List UInt8} {a b : Nat} (h : copyB y (a + b) = true) : copyB (y.drop a) b = true := by
  unfold copyB symB at *
  simp only [Bool.and_eq_true, decide_eq_true_eq, List.all_eq_true] at *
  exact ⟨by rw [List.length_drop]; omega, fun x hx => h.2 x (List.mem_of_mem_drop hx)⟩
/-- A user's full word: that of the code, followed by its half. -/
def StV.wd (s : StV) (hs : List (List UInt8)) (x : Nat) : List UInt8 := s.word x ++ hs.getD x []
section
variable {s : StV} {hs : List (List UInt8)} {n m : Nat}
theorem StV.wd_len (hn : s.n = n) (hh : ∀ x, x < hs.length → wordB (hs.getD x []) m = true) {x : Nat} (hx : x < hs.length) : (s.wd hs x).length = n + m := by
  unfold StV.wd
  rw [List.length_append, s.word_len, hn, wordB_len (hh x hx)]
theorem StV.wd_bit (hn : s.n = n) (hh : ∀ x, x < hs.length → wordB (hs.getD x []) m = true) {x : Nat} (hx : x < hs.length) (i : Nat) : bt (s.wd hs x) i ≤ 1 := by
  unfold StV.wd
  rcases Nat.lt_or_ge i n with h | h
  · have e : bt (s.word x ++ hs.getD x []) i = bt (s.word x) i := by
      unfold bt
      rw [List.getD_eq_getElem?_getD, List.getElem?_append_left (by rw [s.word_len]; omega), ← List.getD_eq_getElem?_getD]
    rw [e]
    exact s.word_bit x i
  · obtain ⟨j, rfl⟩ : ∃ j, i = n + j := ⟨i - n, by omega⟩
    rw [bt_append_right _ _ (by rw [s.word_len, hn])]
    rcases Nat.lt_or_ge j m with h2 | h2
    · exact (wordB_sym (hh x hx)).2 j h2
    · rw [bt_ge (by rw [wordB_len (hh x hx)]; exact h2)]; omega
theorem StV.wd_word (hn : s.n = n) (hh : ∀ x, x < hs.length → wordB (hs.getD x []) m = true) {x : Nat} (hx : x < hs.length) : wordB (s.wd hs x) (n + m) = true := by
  unfold wordB
  rw [Bool.and_eq_true, decide_eq_true_eq]
  exact ⟨StV.wd_len hn hh hx, symB_iff.2 fun i _ => StV.wd_bit hn hh hx i⟩
theorem wds_ok (hn : s.n = n) (hh : ∀ x, x < hs.length → wordB (hs.getD x []) m = true) {xs : List Nat} (hx : ∀ x ∈ xs, x < hs.length) (h : 0 < xs.length) (h2 : xs.length ≤ 64) (hN : n + m ≤ 1024) : okWords (xs.map (s.wd hs)) = true ∧ (hd (xs.map (s.wd hs))).length = n + m := by
  have e : (hd (xs.map (s.wd hs))).length = n + m := by rw [hd_map h]; exact StV.wd_len hn hh (hx _ (List.getElem_mem h))
  refine ⟨?_, e⟩
  simp only [okWords, Bool.and_eq_true, decide_eq_true_eq, Bool.not_eq_true', e, List.length_map]
  refine ⟨h, h2, by omega, ?_⟩
  cases ha : anyI xs.length (fun i => !wordB ((xs.map (s.wd hs)).getD i []) (n + m))
  · rfl
  · obtain ⟨i, hi, hp⟩ := anyI_iff.1 ha
    rw [List.getD_eq_getElem?_getD, List.getElem?_map, List.getElem?_eq_getElem hi] at hp
    have := StV.wd_word hn hh (hx _ (List.getElem_mem hi))
    simp only [Option.map_some, Option.getD_some] at hp
    rw [this] at hp
    cases hp
/-- Whoever's half agrees often enough. -/
def guiltB (hs : List (List UInt8)) (t : List UInt8) (m need : Nat) (x : Nat) : Bool := decide (need ≤ agreeN (hs.getD x []) t m)
theorem framed_found (hn : s.n = n) (hh : ∀ x, x < hs.length → wordB (hs.getD x []) m = true) {xs : List Nat} (hx : ∀ x ∈ xs, x < hs.length) (h : 0 < xs.length) {y : List UInt8} (hy : copyB y (n + m) = true) {need : Nat} (h1 : 1 ≤ need)
    (hr : (need - 1) * xs.length < readN ((bring (xs.map (s.wd hs)) y (n + m) (n + m)).drop n) m) : xs.any (guiltB hs ((bring (xs.map (s.wd hs)) y (n + m) (n + m)).drop n) m need) = true := by
  obtain ⟨x, hxm, hxn⟩ := read_member (hv := fun x => hs.getD x []) (xs := xs) (t := (bring (xs.map (s.wd hs)) y (n + m) (n + m)).drop n) (m := m) (need := need) (fun i hi h2 => by
    rw [bt_drop] at h2 ⊢
    obtain ⟨x, hxm, hxe⟩ := bring_member (wd := s.wd hs) (xs := xs) (y := y) (N := n + m) (j := n + i) h (by omega) (fun x hxm => StV.wd_bit hn hh (hx x hxm) _) ((copyB_sym hy).2 _ (by omega)) h2
    refine ⟨x, hxm, ?_⟩
    rw [← hxe]
    unfold StV.wd
    rw [bt_append_right _ _ (by rw [s.word_len, hn])]) h1 hr
  rw [List.any_eq_true]
  exact ⟨x, hxm, decide_eq_true hxn⟩
theorem framed_lone (hn : s.n = n) (hh : ∀ x, x < hs.length → wordB (hs.getD x []) m = true) {x : Nat} (hx : x < hs.length) (y : List UInt8) {need : Nat} (h2 : need ≤ m) :
    (bring ([x].map (s.wd hs)) y (n + m) (n + m)).take n = s.word x ∧ [x].any (guiltB hs ((bring ([x].map (s.wd hs)) y (n + m) (n + m)).drop n) m need) = true := by
  have e : bring ([x].map (s.wd hs)) y (n + m) (n + m) = s.wd hs x := bring_lone (StV.wd_len hn hh hx)
  rw [e]
  unfold StV.wd
  refine ⟨List.take_left' (by rw [s.word_len, hn]), ?_⟩
  rw [List.drop_left' (by rw [s.word_len, hn])]
  simp only [List.any_cons, List.any_nil, Bool.or_false, guiltB, decide_eq_true_eq]
  rw [agreeN_self]
  exact h2
end
theorem readN_le (t : List UInt8) : ∀ m, readN t m ≤ m
  | 0 => Nat.le_refl _
  | m + 1 => by
    have := readN_le t m
    rw [readN]
    split <;> omega
theorem any_take {P : Nat → Bool} {xs : List Nat} {i : Nat} (h : i < xs.length) : (xs.take (i + 1)).any P = ((xs.take i).any P || P xs[i]) := by
  have e : xs.take (i + 1) = xs.take i ++ [xs[i]] := by rw [List.take_append_getElem h]
  rw [e, List.any_append]
  simp
end Go.Proofs.YtchnaimpmegbkaaGreatDoor

/- The case against a customer, as the register gives it: what is in it, in plain words. -/
namespace Go.Proofs.YtchnaimpmegbkaaGreatDoor
open Go.RowKit
set_option linter.unusedVariables false
set_option linter.unusedSimpArgs false

theorem accused_own2 {cl : List Value} (h20 : cl.length = 20) (hall : ∀ v ∈ cl, v.oneCell' = true) {A : Option Addr} {c : Nat} {rs : List BRow} {K : List UInt8} {hs : List (List UInt8)} {N : Option Addr} {a : Nat} {C : Option Addr} {b u n : Nat} {Y : Option Addr} {ny d : Nat} {y : List UInt8} {need : Int} {r : BRow} {W : World} {m : Nat}
    (hhs : rs.map BRow.l = hs) (hn : rs.length = n) (hu : u < n) (h128 : n ≤ 128) (hK : K.length = 16) (hR : RR W A c rs) (hN : KR W N a (nonsF K n)) (hC : KR W C b (comsF K hs n)) (hr : rs[u]? = some r) (hny : y.length = ny) (hY : BR W Y d y) (hm : (pathS (comsF K hs n) u).length = m) :
    Calls Tryz.prog 10 #[.agg (regC cl A n c N n a C n b (rootS (comsF K hs n))).toArray, .int .i64 (u : Int), .slice Y ny d, .int .i64 need] W fun e w' => (∃ A' c', e = .returned (.tuple #[.agg (caseC (ownV K hs n u y need) A' m c' Y ny d r.A r.l.length r.c).toArray, .bool true]) ∧ CaseOK w' (ownV K hs n u y need) A' m c' Y ny d r.A r.l.length r.c ∧ OK16 W.heap.size w' A' c' (pathS (comsF K hs n) u)) ∧ Below W.heap.size W w' := by
  have hrl : hs.getD u [] = r.l := by rw [← hhs]; exact row_l hr
  refine (accused_any cl h20 A c rs N a (nonsF K n) C b (comsF K hs n) (rootS (comsF K hs n)) u n Y ny d y need r W hn (nonsF_len _ _) (comsF_len _ _ _) hu h128 (rootS_length _) hall hR hN hC hr).mono fun e w' hq => ?_
  obtain ⟨⟨A', c', h1, h2⟩, h3⟩ := hq
  have e1 : (⟨rootS (comsF K hs n), (comsF K hs n).getD u [], (n : Int), (u : Int), pathS (comsF K hs n) u, y, need, true, r.l, (nonsF K n).getD u []⟩ : CV) = ownV K hs n u y need := by
    unfold ownV
    rw [hrl]
  rw [e1, hm] at h1
  have hk := own_caseOK (need := need) (Y := Y) (ny := ny) (d := d) (H := r.A) (k := r.l.length) (h := r.c) hu h128 hK h2 hny (hY.below h3) (by rw [hrl]) (by rw [hrl]; exact (hR.2 r (List.mem_of_getElem? hr)).below h3)
  rw [hm] at hk
  exact ⟨⟨A', c', h1, hk, h2⟩, h3⟩
end Go.Proofs.YtchnaimpmegbkaaGreatDoor

/- The tail of the threshold at nothing, compared with a code's limit. -/
namespace Go.Proofs.YtchnaimpmegbkaaGreatDoor
open Go.RowKit
set_option linter.unusedVariables false
set_option linter.unusedSimpArgs false

theorem frac2_opened {W w' : World} {e : Ending} {r : (List Nat × List Nat) × Int} (h : Frac2 W w' e r) : ∃ X x Z z, e = .returned (.tuple #[.agg #[.slice X r.1.1.length x, .slice Z r.1.2.length z], .int .i64 r.2]) ∧ NR w' X x r.1.1 ∧ NR w' Z z r.1.2 ∧ Below W.heap.size W w' := by
  obtain ⟨v, rfl, X, x, Z, z, rfl, h1, h2, _, hb⟩ := h
  exact ⟨X, x, Z, z, rfl, h1.nr_, h2.nr_, hb⟩
theorem esc_cmp_ {s : StV} (hok : s.ok = true) {d : Nat} (hd : s.b = (d : Int)) : cmpFS (lowS (divsN d d 1) (bin (2 * d) d)).1 (lowS (divsN d d 1) (bin (2 * d) d)).2 s.x s.y = (cmpN (divsN d d 1 * val s.y) (val s.x * bin (2 * d) d), 0) ∧ (cmpN (divsN d d 1 * val s.y) (val s.x * bin (2 * d) d) ≤ 0 ↔ 0 ≤ s.th d) := by
  obtain ⟨⟨q1, q2, q3, q4⟩, hl⟩ := StV.parts hok
  obtain ⟨hv, h2, h3, h4⟩ := limB_iff.1 hl
  refine ⟨low_cmp (bin_ne d) (divs_sm (by omega) (by omega) (by omega)) (bin_sm (by omega)) hv, ?_⟩
  rw [cmpN_le0]
  have h5 := thS_neg d d (val s.x) (val s.y)
  have e : s.th d = thS d d (val s.x) (val s.y) := by unfold StV.th; rw [hd, Int.toNat_natCast]
  rw [e]
  unfold underB at h5
  rw [decide_eq_false_iff_not] at h5
  constructor
  · intro g
    rcases Int.lt_or_le (thS d d (val s.x) (val s.y)) 0 with g2 | g2
    · exact absurd g (h5.1 g2)
    · exact g2
  · intro g
    apply Classical.byContradiction
    intro g2
    have := h5.2 g2
    omega
theorem top_tail {D : Nat} (h1 : 1 ≤ D) (h2 : D ≤ 64) (W : World) : Calls Tryz.prog 20 #[.int .i64 (D : Int), .int .i64 (D : Int), .int .i64 0] W fun e w' => ∃ X x' Z z, e = .returned (.tuple #[.agg #[.slice X (lowS (divsN D D 1) (bin (2 * D) D)).1.length x', .slice Z (lowS (divsN D D 1) (bin (2 * D) D)).2.length z], .int .i64 0]) ∧ NR w' X x' (lowS (divsN D D 1) (bin (2 * D) D)).1 ∧ NR w' Z z (lowS (divsN D D 1) (bin (2 * D) D)).2 ∧ Below W.heap.size W w' := by
  have u1 := tailS_yes (d := D) (k := D) (X := 1) (x := 0) (by omega) (by omega) (by omega) (by omega) (by omega)
  have HT := (Tail_any (D : Int) (D : Int) 0 W).mono fun e w' h => frac2_opened h
  rw [u1] at HT
  exact HT
theorem top_cmp {s : StV} (hok : s.ok = true) {D : Nat} (hD : s.b = (D : Int)) {W : World} (h : StOK W s) {A : Option Addr} {a : Nat} {B : Option Addr} {b : Nat} (g1 : NR W A a (lowS (divsN D D 1) (bin (2 * D) D)).1) (g2 : NR W B b (lowS (divsN D D 1) (bin (2 * D) D)).2) :
    Calls Tryz.prog 21 #[.agg #[.slice A (lowS (divsN D D 1) (bin (2 * D) D)).1.length a, .slice B (lowS (divsN D D 1) (bin (2 * D) D)).2.length b], .agg #[.slice s.A s.x.length s.ca, .slice s.Bd s.y.length s.cb]] W fun e w' => e = .returned (.tuple #[.int .i64 (cmpN (divsN D D 1 * val s.y) (val s.x * bin (2 * D) D)), .int .i64 0]) ∧ Below W.heap.size W w' := by
  obtain ⟨v1, -⟩ := esc_cmp_ hok hD
  exact (CompareFractions_any A a _ B b _ s.A s.ca s.x s.Bd s.cb s.y W rfl rfl rfl rfl g1 g2 h.hx h.hy).mono fun e w' hq => by
    rw [v1] at hq
    exact hq
end Go.Proofs.YtchnaimpmegbkaaGreatDoor
