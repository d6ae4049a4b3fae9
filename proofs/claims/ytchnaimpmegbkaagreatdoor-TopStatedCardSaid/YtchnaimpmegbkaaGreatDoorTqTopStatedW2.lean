/-
  Lemmas and contracts, joined.
-/
import Derived.Lib.AppendZeros
import Derived.Deep.MidRow
import Derived.Deep.QuietTactic
import Derived.BigQuiet
import Derived.Test.YtchnaimpmegbkaaGreatDoorTqTopStatedW1
import Derived.Test.YtchnaimpmegbkaaGreatDoorTqTj1
import Derived.Test.YtchnaimpmegbkaaGreatDoorTqTp2
import Derived.Test.YtchnaimpmegbkaaGreatDoorTqTh1
import Derived.Test.YtchnaimpmegbkaaGreatDoorTqTc1
import Derived.Test.YtchnaimpmegbkaaGreatDoorTqTr2
import Derived.Test.YtchnaimpmegbkaaGreatDoorTqTr1
import Derived.Test.YtchnaimpmegbkaaGreatDoorTqTp1
import Derived.Test.YtchnaimpmegbkaaGreatDoorTqTl1
import Derived.Test.YtchnaimpmegbkaaGreatDoorTqTw1
set_option linter.unusedSimpArgs false
set_option linter.unusedVariables false
set_option linter.unnecessarySimpa false
/- The example: the walk. -/
namespace Go.Proofs.YtchnaimpmegbkaaGreatDoor
open Go.RowKit
set_option linter.unusedVariables false
set_option linter.unusedSimpArgs false

theorem one20s (A : Option Addr) (n c : Nat) (B : Option Addr) (m d : Nat) : ((#[.int .i64 3, .int .i64 2, .int .u8 1, .int .u8 0, .int .u8 0, .int .u8 0, .int .u8 0, .int .u8 0, .int .u8 0, .int .u8 0, .int .u8 0, .int .u8 0, .int .u8 0, .int .u8 0, .int .u8 0, .int .u8 0, .int .u8 0, .int .u8 0, .slice A n c, .slice B m d] : Array Value).all (·.oneCell')) = true := by simp [Value.oneCell']
theorem TestsIn.below_ {w W : World} (h : TestsIn w) (hb : Below w.heap.size w W) : TestsIn W := fun j v hv => (hb.cell (World.block_lt_of_cell? _ _ (h j v hv))).trans (h j v hv)
theorem rows3_lit (w5 : World) {W : World} (h6 : W = (((w5.alloc (.cells #[.int .u8 0, .int .u8 0, .int .u8 1] 5)).alloc (.cells #[.int .u8 1, .int .u8 0, .int .u8 1] 5)).alloc (.cells #[.int .u8 1, .int .u8 1, .int .u8 0] 5)).alloc (.cells #[.slice (some ⟨w5.heap.size, 0, none⟩) 3 3, .slice (some ⟨w5.heap.size + 1, 0, none⟩) 3 3, .slice (some ⟨w5.heap.size + 1 + 1, 0, none⟩) 3 3] 31)) : RR W (some ⟨w5.heap.size + 1 + 1 + 1, 0, none⟩) 3 [(⟨some ⟨w5.heap.size, 0, none⟩, 3, [0, 0, 1]⟩ : BRow), ⟨some ⟨w5.heap.size + 1, 0, none⟩, 3, [1, 0, 1]⟩, ⟨some ⟨w5.heap.size + 1 + 1, 0, none⟩, 3, [1, 1, 0]⟩] ∧ Below w5.heap.size w5 W := by
  have e1 : Below (w5.alloc (.cells #[.int .u8 0, .int .u8 0, .int .u8 1] 5)).heap.size (w5.alloc (.cells #[.int .u8 0, .int .u8 0, .int .u8 1] 5)) W := by rw [h6]; exact alloc3_bel _ _ _ _
  have e2 : Below ((w5.alloc (.cells #[.int .u8 0, .int .u8 0, .int .u8 1] 5)).alloc (.cells #[.int .u8 1, .int .u8 0, .int .u8 1] 5)).heap.size ((w5.alloc (.cells #[.int .u8 0, .int .u8 0, .int .u8 1] 5)).alloc (.cells #[.int .u8 1, .int .u8 0, .int .u8 1] 5)) W := by rw [h6]; exact alloc2_bel _ _ _
  have e3 : Below (((w5.alloc (.cells #[.int .u8 0, .int .u8 0, .int .u8 1] 5)).alloc (.cells #[.int .u8 1, .int .u8 0, .int .u8 1] 5)).alloc (.cells #[.int .u8 1, .int .u8 1, .int .u8 0] 5)).heap.size (((w5.alloc (.cells #[.int .u8 0, .int .u8 0, .int .u8 1] 5)).alloc (.cells #[.int .u8 1, .int .u8 0, .int .u8 1] 5)).alloc (.cells #[.int .u8 1, .int .u8 1, .int .u8 0] 5)) W := by rw [h6]; exact alloc_bel _ _
  have r1 : BR W (some ⟨w5.heap.size, 0, none⟩) 3 [0, 0, 1] := ((Blk.new w5 5 (cellsB [0, 0, 1]).toArray).below' e1).brn rfl (by omega)
  have r2 : BR W (some ⟨w5.heap.size + 1, 0, none⟩) 3 [1, 0, 1] := by
    have := ((Blk.new (w5.alloc (.cells #[.int .u8 0, .int .u8 0, .int .u8 1] 5)) 5 (cellsB [1, 0, 1]).toArray).below' e2).brn (n := 3) rfl (by omega)
    simpa using this
  have r3 : BR W (some ⟨w5.heap.size + 1 + 1, 0, none⟩) 3 [1, 1, 0] := by
    have := ((Blk.new ((w5.alloc (.cells #[.int .u8 0, .int .u8 0, .int .u8 1] 5)).alloc (.cells #[.int .u8 1, .int .u8 0, .int .u8 1] 5)) 5 (cellsB [1, 1, 0]).toArray).below' e3).brn (n := 3) rfl (by omega)
    simpa using this
  have b3 : Blk W (w5.heap.size + 1 + 1 + 1) 31 #[.slice (some ⟨w5.heap.size, 0, none⟩) 3 3, .slice (some ⟨w5.heap.size + 1, 0, none⟩) 3 3, .slice (some ⟨w5.heap.size + 1 + 1, 0, none⟩) 3 3] := by
    have := Blk.new (((w5.alloc (.cells #[.int .u8 0, .int .u8 0, .int .u8 1] 5)).alloc (.cells #[.int .u8 1, .int .u8 0, .int .u8 1] 5)).alloc (.cells #[.int .u8 1, .int .u8 1, .int .u8 0] 5)) 31 #[.slice (some ⟨w5.heap.size, 0, none⟩) 3 3, .slice (some ⟨w5.heap.size + 1, 0, none⟩) 3 3, .slice (some ⟨w5.heap.size + 1 + 1, 0, none⟩) 3 3]
    rw [h6]
    simpa using this
  refine ⟨⟨⟨⟨by simp, by simp, by simp, by simp⟩, fun _ => ⟨_, _, rfl, b3.lt, fun j u hu => ?_⟩⟩, fun r hr => ?_⟩, bel_on (alloc_bel _ _) e1⟩
  · rw [Nat.zero_add, b3.cell j]
    simpa [BRow.v] using hu
  · simp only [List.mem_cons, List.not_mem_nil, or_false] at hr
    rcases hr with rfl | rfl | rfl
    · exact r1
    · exact r2
    · exact r3
set_option maxHeartbeats 8000000 in
set_option maxRecDepth 100000 in
theorem alive09_any (w : World) (hT : TestsIn w) : Calls Tryz.prog 5 #[] w fun e w' => e = .returned (.bool true) ∧ Below w.heap.size w w' := by
  have HT := Lib.hid hT
  obtain ⟨d1, hd1⟩ : ∃ q, (digs 1).length = q := ⟨_, rfl⟩
  obtain ⟨d6, hd6⟩ : ∃ q, (digs 6).length = q := ⟨_, rfl⟩
  obtain ⟨l1, hl1⟩ : ∃ q, (lowS 1 6).1.length = q := ⟨_, rfl⟩
  obtain ⟨l6, hl6⟩ : ∃ q, (lowS 1 6).2.length = q := ⟨_, rfl⟩
  have HO1 : Hid (∀ W, Calls Tryz.prog 23 #[.int .u64 1] W fun e w' => (∃ A c, e = .returned (.slice A d1 c) ∧ NR w' A c (digs 1)) ∧ Below W.heap.size W w') := fun W => by rw [← hd1]; exact ofD_any 1 W (by omega)
  have HO6 : Hid (∀ W, Calls Tryz.prog 23 #[.int .u64 6] W fun e w' => (∃ A c, e = .returned (.slice A d6 c) ∧ NR w' A c (digs 6)) ∧ Below W.heap.size W w') := fun W => by rw [← hd6]; exact ofD_any 6 W (by omega)
  have HRT : Hid (∀ R r T t W, NR W R r (digs 1) → NR W T t (digs 6) → Calls Tryz.prog 22 #[.slice R d1 r, .slice T d6 t] W fun e w' => (∃ X x Y y, e = .returned (.tuple #[.agg #[.slice X l1 x, .slice Y l6 y], .int .i64 0]) ∧ NR w' X x (lowS 1 6).1 ∧ NR w' Y y (lowS 1 6).2) ∧ Below W.heap.size W w') := fun R r T t W g1 g2 =>
    (ratioD_any (sm_small (by omega)) (sm_small (by omega)) (by omega) hd1 hd6 g1 g2).mono fun e w' hq => by
      obtain ⟨v, rfl, X, x, Y, y, rfl, h1, h2, -, h3⟩ := hq
      rw [← hl1, ← hl6]
      exact ⟨⟨X, x, Y, y, rfl, h1.1, h2.1⟩, h3⟩
  have HL1 := Lib.hid hl1
  have HL6 := Lib.hid hl6
  clear hd1 hd6 hl1 hl6 hT
  go_enter Tryz.func5, Tryz.ntmps5
  go_wp2_with fail
  refine (HO1.out _).mono ?_
  rintro e w1 ⟨⟨A1, c1, rfl, h1⟩, hb1⟩
  have K1 : Hid (Below w.heap.size w w1) := hb1
  have N1 := Lib.hid h1
  clear hb1 h1
  go_wp2_with fail
  refine (HO6.out _).mono ?_
  rintro e w2 ⟨⟨A2, c2, rfl, h2⟩, hb2⟩
  have K2 : Hid (Below w.heap.size w w2) := bel_on K1.out hb2
  have N2 := Lib.hid h2
  have N1' := Lib.hid (N1.out.below hb2)
  clear hb2 h2
  go_wp2_with fail
  --MARK a
  refine (HRT.out _ _ _ _ _ N1'.out N2.out).mono ?_
  rintro e w3 ⟨⟨X, x, Y, y, rfl, hX, hY⟩, hb3⟩
  have K3 : Hid (Below w.heap.size w w3) := bel_on K2.out hb3
  obtain ⟨w4, hw4⟩ : ∃ W, W = w3.alloc (.cells #[.slice X l1 x, .slice Y l6 y] 27) := ⟨_, rfl⟩
  have d4 : Below w3.heap.size w3 w4 := by rw [hw4]; exact alloc_bel _ _
  have T4 : Hid (Blk w4 w3.heap.size 27 #[.slice X l1 x, .slice Y l6 y]) := by unfold Hid; rw [hw4]; exact Blk.new _ _ _
  obtain ⟨sv, hsv⟩ : ∃ s, s = aliveV X x Y y := ⟨_, rfl⟩
  obtain ⟨w5, hw5⟩ : ∃ W, W = w4.alloc (.cells #[.int .i64 3, .int .i64 2, .int .u8 1, .int .u8 0, .int .u8 0, .int .u8 0, .int .u8 0, .int .u8 0, .int .u8 0, .int .u8 0, .int .u8 0, .int .u8 0, .int .u8 0, .int .u8 0, .int .u8 0, .int .u8 0, .int .u8 0, .int .u8 0, .slice X l1 x, .slice Y l6 y] 29) := ⟨_, rfl⟩
  have d5 : Below w4.heap.size w4 w5 := by rw [hw5]; exact alloc_bel _ _
  have hcs : sv.cs.toArray = #[.int .i64 3, .int .i64 2, .int .u8 1, .int .u8 0, .int .u8 0, .int .u8 0, .int .u8 0, .int .u8 0, .int .u8 0, .int .u8 0, .int .u8 0, .int .u8 0, .int .u8 0, .int .u8 0, .int .u8 0, .int .u8 0, .int .u8 0, .int .u8 0, .slice X l1 x, .slice Y l6 y] := by rw [hsv]; exact alive_cs_ X x Y y HL1.out HL6.out
  have X5 : Hid (Blk w5 w4.heap.size 29 sv.cs.toArray) := by unfold Hid; rw [hw5, hcs]; exact Blk.new _ _ _
  have S5 : Hid (StOK w5 sv) := by rw [hsv]; exact ⟨rfl, (hX.below d4).below d5, (hY.below d4).below d5⟩
  have K5 : Hid (Below w.heap.size w w5) := bel_on (bel_on K3.out d4) d5
  have HIN : Hid ((Tryz.prog.info? 29).map (·.size) = some sv.cs.toArray.size) := StV.info (s := sv) S5.out.k16
  have hk16 : sv.k.length = 16 := S5.out.k16
  have H20 : Hid (sv.cs.length = 20) := StV.len hk16
  have HAL : Hid (∀ v ∈ sv.cs, v.oneCell' = true) := by
    have := StV.all sv
    rw [List.all_toArray, List.all_eq_true] at this
    exact this
  have hok : sv.ok = true := by rw [hsv]; exact alive_ok_ X x Y y
  have hsn : sv.n = 4 := by rw [hsv]; exact alive_n_ X x Y y
  have hsu : sv.u = 3 := by rw [hsv]; rfl
  have hsm : sv.nms (sv.word 1) = [1] := by rw [hsv]; exact alive_nms_ X x Y y
  have HSW : Hid (∀ W, Below w5.heap.size w5 W → Calls Tryz.prog 15 #[.agg sv.cs.toArray, .int .i64 1] W fun e w' => (∃ A c, e = .returned (.tuple #[.slice A 4 c, .int .i64 0]) ∧ BR w' A c (sv.word 1)) ∧ Below W.heap.size W w') := fun W hW => alive_stepWord (S5.out.below hW) hok hsu hsn
  have HTS : Hid (∀ W Z z, Below w5.heap.size w5 W → BR W Z z (sv.word 1) → Calls Tryz.prog 18 #[.agg sv.cs.toArray, .slice Z 4 z] W fun e w' => (∃ A c, e = .returned (.tuple #[.slice A 1 c, .int .i64 0]) ∧ IR w' A c [1]) ∧ Below W.heap.size W w') := fun W Z z hW hZ => alive_trace (S5.out.below hW) hok hsn hsm hZ
  --MARK b
  have HX5 : Hid (∀ W, Below w5.heap.size w5 W → Blk W w4.heap.size 29 sv.cs.toArray) := fun W hW => X5.out.below' hW
  have HW4 := Lib.hid hw4
  have HW5 : Hid (w5 = w4.alloc (.cells #[.int .i64 3, .int .i64 2, .int .u8 1, .int .u8 0, .int .u8 0, .int .u8 0, .int .u8 0, .int .u8 0, .int .u8 0, .int .u8 0, .int .u8 0, .int .u8 0, .int .u8 0, .int .u8 0, .int .u8 0, .int .u8 0, .int .u8 0, .int .u8 0, .slice X l1 x, .slice Y l6 y] 29)) := hw5
  have I5 : Hid (Below w5.heap.size w5 w5) := Below.refl _ _
  obtain ⟨w6, hw6⟩ : ∃ W, W = (((w5.alloc (.cells #[.int .u8 0, .int .u8 0, .int .u8 1] 5)).alloc (.cells #[.int .u8 1, .int .u8 0, .int .u8 1] 5)).alloc (.cells #[.int .u8 1, .int .u8 1, .int .u8 0] 5)).alloc (.cells #[.slice (some ⟨w5.heap.size, 0, none⟩) 3 3, .slice (some ⟨w5.heap.size + 1, 0, none⟩) 3 3, .slice (some ⟨w5.heap.size + 1 + 1, 0, none⟩) 3 3] 31) := ⟨_, rfl⟩
  have R6 : Hid (RR w6 (some ⟨w5.heap.size + 1 + 1 + 1, 0, none⟩) 3 [(⟨some ⟨w5.heap.size, 0, none⟩, 3, [0, 0, 1]⟩ : BRow), ⟨some ⟨w5.heap.size + 1, 0, none⟩, 3, [1, 0, 1]⟩, ⟨some ⟨w5.heap.size + 1 + 1, 0, none⟩, 3, [1, 1, 0]⟩]) := (rows3_lit w5 hw6).1
  have I6 : Hid (Below w5.heap.size w5 w6) := (rows3_lit w5 hw6).2
  have HW6 := Lib.hid hw6
  have HRG : Hid (Calls Tryz.prog 9 #[.agg sv.cs.toArray, .slice (some ⟨w5.heap.size + 1 + 1 + 1, 0, none⟩) 3 3, .agg #[.int .u8 2, .int .u8 0, .int .u8 0, .int .u8 0, .int .u8 0, .int .u8 0, .int .u8 0, .int .u8 0, .int .u8 0, .int .u8 0, .int .u8 0, .int .u8 0, .int .u8 0, .int .u8 0, .int .u8 0, .int .u8 0]] w6 fun e w' => (∃ N a C b, e = .returned (.tuple #[.agg (regC sv.cs (some ⟨w5.heap.size + 1 + 1 + 1, 0, none⟩) 3 3 N 3 a C 3 b (rootS (comsF ak2 ahs 3))).toArray, .bool true]) ∧ OK16 w6.heap.size w' N a (nonsF ak2 3) ∧ OK16 w6.heap.size w' C b (comsF ak2 ahs 3)) ∧ Below w6.heap.size w6 w') :=
    alive_reg (S5.out.below I6.out) R6.out rfl
  clear hw4 hw5 hw6 hcs hsv hok hsn hsu hsm hX hY hb3 d4 d5 hk16
  --MARK c
  go_wp2_with (first
    | (rw [← HW4.out])
    | (rw [← HW5.out])
    | (rw [← HW6.out])
    | (refine wpList_buildTo rfl 23 #[(0, .const (.int .u8 1))] rfl (some 21) rfl #[.int .u8 1, .int .u8 0, .int .u8 0, .int .u8 0, .int .u8 0, .int .u8 0, .int .u8 0, .int .u8 0, .int .u8 0, .int .u8 0, .int .u8 0, .int .u8 0, .int .u8 0, .int .u8 0, .int .u8 0, .int .u8 0] (by kernel_rfl) ?_)
    | (refine wpList_buildTo rfl 23 #[(0, .const (.int .u8 2))] rfl (some 30) rfl #[.int .u8 2, .int .u8 0, .int .u8 0, .int .u8 0, .int .u8 0, .int .u8 0, .int .u8 0, .int .u8 0, .int .u8 0, .int .u8 0, .int .u8 0, .int .u8 0, .int .u8 0, .int .u8 0, .int .u8 0, .int .u8 0] (by kernel_rfl) ?_)
    | (refine wpList_buildTo rfl 29 #[(0, .const (.int .i64 3)), (1, .const (.int .i64 2)), (2, .tmp 21), (3, .tmp 22)] rfl (some 23) rfl #[.int .i64 3, .int .i64 2, .int .u8 1, .int .u8 0, .int .u8 0, .int .u8 0, .int .u8 0, .int .u8 0, .int .u8 0, .int .u8 0, .int .u8 0, .int .u8 0, .int .u8 0, .int .u8 0, .int .u8 0, .int .u8 0, .int .u8 0, .int .u8 0, .slice X l1 x, .slice Y l6 y] (by kernel_rfl) ?_)
    | (refine wpList_store_row rfl 29 (.tmp 3) (.tmp 23) rfl w4.heap.size #[.int .i64 3, .int .i64 2, .int .u8 1, .int .u8 0, .int .u8 0, .int .u8 0, .int .u8 0, .int .u8 0, .int .u8 0, .int .u8 0, .int .u8 0, .int .u8 0, .int .u8 0, .int .u8 0, .int .u8 0, .int .u8 0, .int .u8 0, .int .u8 0, .slice X l1 x, .slice Y l6 y] rfl rfl 29 #[.int .i64 0, .int .i64 0, .int .u8 0, .int .u8 0, .int .u8 0, .int .u8 0, .int .u8 0, .int .u8 0, .int .u8 0, .int .u8 0, .int .u8 0, .int .u8 0, .int .u8 0, .int .u8 0, .int .u8 0, .int .u8 0, .int .u8 0, .int .u8 0, .slice none 0 0, .slice none 0 0] (Blk.new w4 _ _) (by kernel_rfl) rfl (one20s _ _ _ _ _ _) ?_; rw [setRow_alloc_new, ← HW5.out])
    | (refine wpList_load_row rfl 27 (.tmp 1) rfl w3.heap.size rfl 27 #[.slice X l1 x, .slice Y l6 y] (0, 0) _ T4.out Tryz.underlying27 rfl (by kernel_rfl) ?_)
    | (refine wpList_load_row rfl 29 (.tmp 3) rfl w4.heap.size rfl 29 sv.cs.toArray (0, 0) _ (HX5.out _ I5.out) Tryz.underlying29 rfl HIN.out ?_))
  --MARK 1
  refine HRG.out.mono ?_
  rintro e w7 ⟨⟨N, a, C, b, rfl, hN7, hC7⟩, hb7⟩
  have B67 := Lib.hid hb7
  have I7 : Hid (Below w5.heap.size w5 w7) := bel_on I6.out hb7
  have K7 : Hid (Below w.heap.size w w7) := bel_on K5.out I7.out
  obtain ⟨rg, hrg⟩ : ∃ q, q = regC sv.cs (some ⟨w5.heap.size + 1 + 1 + 1, 0, none⟩) 3 3 N 3 a C 3 b (rootS (comsF ak2 ahs 3)) := ⟨_, rfl⟩
  have HRI : Hid ((Tryz.prog.info? 37).map (·.size) = some rg.toArray.size) := by rw [hrg]; exact reg_info H20.out (rootS_length _)
  have HRO : Hid (zReg.size = rg.toArray.size) := by rw [hrg]; exact zReg_old H20.out (rootS_length _)
  have HRA : Hid (rg.toArray.all (·.oneCell') = true) := by rw [hrg]; exact all_oneCell_toArray (regC_all HAL.out)
  have N7 := Lib.hid hN7
  have C7 := Lib.hid hC7
  have HRGV := Lib.hid hrg
  rw [← hrg]
  clear hb7 hN7 hC7 hrg
  go_wp2_with (first
    | ((first | rw [zero39] | skip); refine wpList_store_row rfl 37 (.tmp 4) (.tmp 32) rfl w7.heap.size rg.toArray rfl rfl 37 zReg (Blk.new w7 _ _) HRI.out HRO.out HRA.out ?_; obtain ⟨w8, hV⟩ : ∃ W, W = (w7.alloc (.cells zReg 37)).setRow w7.heap.size rg.toArray := ⟨_, rfl⟩; rw [← hV]; obtain ⟨gb, nb⟩ := keybox2_ _ _ _ _ hV; have X8 := Lib.hid nb; have E78 := Lib.hid gb; have K8 := Lib.hid (bel_on K7.out gb); have I8 := Lib.hid (bel_on I7.out gb); have N8 := Lib.hid (N7.out.below gb); have C8 := Lib.hid (C7.out.below gb); clear hV gb nb)
    | (refine wpList_load_row rfl 29 (.tmp 3) rfl w4.heap.size rfl 29 sv.cs.toArray (0, 0) _ (HX5.out _ I8.out) Tryz.underlying29 rfl HIN.out ?_))
  --MARK 2
  have HX8 : Hid (∀ W, Below w8.heap.size w8 W → Blk W w7.heap.size 37 rg.toArray) := fun W hW => X8.out.below' hW
  refine (HSW.out _ I8.out).mono ?_
  rintro e w9 ⟨⟨A9, c9, rfl, h9⟩, hb9⟩
  have J9 : Hid (Below w8.heap.size w8 w9) := hb9
  have I9 : Hid (Below w5.heap.size w5 w9) := bel_on I8.out hb9
  have Z9 := Lib.hid h9
  clear hb9 h9
  go_wp2_with (first | (refine wpList_load_row rfl 29 (.tmp 3) rfl w4.heap.size rfl 29 sv.cs.toArray (0, 0) _ (HX5.out _ I9.out) Tryz.underlying29 rfl HIN.out ?_))
  refine (HTS.out _ _ _ I9.out Z9.out).mono ?_
  rintro e w10 ⟨⟨A10, c10, rfl, h10⟩, hb10⟩
  have J10 : Hid (Below w8.heap.size w8 w10) := bel_on J9.out hb10
  have K10 : Hid (Below w.heap.size w w10) := bel_on K8.out J10.out
  obtain ⟨pl, ol, rfl, -, hcl⟩ := h10.at_ (i := 0) (by simp)
  rw [Nat.add_zero] at hcl
  have hcl2 : w10.cell? ⟨pl, ol, none⟩ = some (.int .i64 1) := hcl
  obtain ⟨v1, hv1⟩ : ∃ v, v = ownV ak2 ahs 3 1 [1, 0, 1] 3 := ⟨_, rfl⟩
  obtain ⟨v2, hv2⟩ : ∃ v, v = ownV ak2 ahs 3 2 [1, 0, 1] 2 := ⟨_, rfl⟩
  obtain ⟨m1, hm1⟩ : ∃ q, (pathS (comsF ak2 ahs 3) 1).length = q := ⟨_, rfl⟩
  obtain ⟨m2, hm2⟩ : ∃ q, (pathS (comsF ak2 ahs 3) 2).length = q := ⟨_, rfl⟩
  have HV1 : Hid (judgeS v1 = (3, 0)) := by rw [hv1]; exact judge_ex1
  have HV2 : Hid (judgeS v2 = (4, 0)) := by rw [hv2]; exact judge_ex2
  have HRR : Hid (∀ W, Below w8.heap.size w8 W → RR W (some ⟨w5.heap.size + 1 + 1 + 1, 0, none⟩) 3 [(⟨some ⟨w5.heap.size, 0, none⟩, 3, [0, 0, 1]⟩ : BRow), ⟨some ⟨w5.heap.size + 1, 0, none⟩, 3, [1, 0, 1]⟩, ⟨some ⟨w5.heap.size + 1 + 1, 0, none⟩, 3, [1, 1, 0]⟩] ∧ KR W N a (nonsF ak2 3) ∧ KR W C b (comsF ak2 ahs 3)) := fun W hW => by
    have b68 : Below w6.heap.size w6 w8 := bel_on B67.out E78.out
    exact ⟨(R6.out.below b68).below hW, (N8.out.kr (nonsF_16 ak2 rfl 3) (by rw [nonsF_len]; omega)).below hW, (C8.out.kr (comsF_16 ak2 ahs 3) (by rw [comsF_len]; omega)).below hW⟩
  have HAC1 : Hid (∀ W Q, Below w8.heap.size w8 W → BR W Q 3 [1, 0, 1] → Calls Tryz.prog 10 #[.agg rg.toArray, .int .i64 1, .slice Q 3 3, .int .i64 3] W fun e w' => (∃ A' c', e = .returned (.tuple #[.agg (caseC v1 A' m1 c' Q 3 3 (some ⟨w5.heap.size + 1, 0, none⟩) 3 3).toArray, .bool true]) ∧ CaseOK w' v1 A' m1 c' Q 3 3 (some ⟨w5.heap.size + 1, 0, none⟩) 3 3) ∧ Below W.heap.size W w') := fun W Q hW hQ => by
    obtain ⟨g1, g2, g3⟩ := HRR.out W hW
    rw [HRGV.out, hv1]
    exact accused_own (cl := sv.cs) (rs := [(⟨some ⟨w5.heap.size, 0, none⟩, 3, [0, 0, 1]⟩ : BRow), ⟨some ⟨w5.heap.size + 1, 0, none⟩, 3, [1, 0, 1]⟩, ⟨some ⟨w5.heap.size + 1 + 1, 0, none⟩, 3, [1, 1, 0]⟩]) (u := 1) (n := 3) (y := [1, 0, 1]) (need := 3) (r := ⟨(some ⟨w5.heap.size + 1, 0, none⟩), 3, [1, 0, 1]⟩) H20.out HAL.out rfl rfl (by omega) (by omega) rfl g1 g2 g3 rfl rfl hQ hm1
  have HAC2 : Hid (∀ W Q, Below w8.heap.size w8 W → BR W Q 3 [1, 0, 1] → Calls Tryz.prog 10 #[.agg rg.toArray, .int .i64 2, .slice Q 3 3, .int .i64 2] W fun e w' => (∃ A' c', e = .returned (.tuple #[.agg (caseC v2 A' m2 c' Q 3 3 (some ⟨w5.heap.size + 1 + 1, 0, none⟩) 3 3).toArray, .bool true]) ∧ CaseOK w' v2 A' m2 c' Q 3 3 (some ⟨w5.heap.size + 1 + 1, 0, none⟩) 3 3) ∧ Below W.heap.size W w') := fun W Q hW hQ => by
    obtain ⟨g1, g2, g3⟩ := HRR.out W hW
    rw [HRGV.out, hv2]
    exact accused_own (cl := sv.cs) (rs := [(⟨some ⟨w5.heap.size, 0, none⟩, 3, [0, 0, 1]⟩ : BRow), ⟨some ⟨w5.heap.size + 1, 0, none⟩, 3, [1, 0, 1]⟩, ⟨some ⟨w5.heap.size + 1 + 1, 0, none⟩, 3, [1, 1, 0]⟩]) (u := 2) (n := 3) (y := [1, 0, 1]) (need := 2) (r := ⟨(some ⟨w5.heap.size + 1 + 1, 0, none⟩), 3, [1, 1, 0]⟩) H20.out HAL.out rfl rfl (by omega) (by omega) rfl g1 g2 g3 rfl rfl hQ hm2
  clear hcl h10 hb10 hv1 hv2 hm1 hm2
  --MARK 3
  obtain ⟨w11, hw11⟩ : ∃ W, W = w10.alloc (.cells #[.int .u8 1, .int .u8 0, .int .u8 1] 5) := ⟨_, rfl⟩
  have Y10 : Hid (BR w11 (some ⟨w10.heap.size, 0, none⟩) 3 [1, 0, 1]) := by unfold Hid; rw [hw11]; exact (Blk.new w10 5 (cellsB [1, 0, 1]).toArray).brn rfl (by omega)
  have fa1 : Below w10.heap.size w10 w11 := by rw [hw11]; exact alloc_bel _ _
  have K11 : Hid (Below w.heap.size w w11) := bel_on K10.out (by rw [hw11]; exact alloc_bel _ _)
  have J11 : Hid (Below w8.heap.size w8 w11) := bel_on J10.out (by rw [hw11]; exact alloc_bel _ _)
  have Hw11 := Lib.hid hw11
  clear hw11
  go_wp2_with (first | (refine wpList_load_row rfl 37 (.tmp 4) rfl w7.heap.size rfl 37 rg.toArray (0, 0) _ (HX8.out _ J10.out) Tryz.underlying37 rfl HRI.out ?_) | (rw [← Hw11.out]))
  --MARK A1
  refine (HAC1.out _ _ J11.out Y10.out).mono ?_
  rintro e w12 ⟨⟨A1, c1, rfl, hp1⟩, hb1⟩
  have K12 : Hid (Below w.heap.size w w12) := bel_on K11.out hb1
  have J12 : Hid (Below w8.heap.size w8 w12) := bel_on J11.out hb1
  have FB1 : Hid (Below w10.heap.size w10 w12) := bel_on fa1 hb1
  have C1 : Hid (CaseOK w12 v1 A1 m1 c1 (some ⟨w10.heap.size, 0, none⟩) 3 3 (some ⟨w5.heap.size + 1, 0, none⟩) 3 3) := hp1
  clear hb1 hp1 fa1
  go_wp2_with (first
    | ((first | rw [zero55_] | skip); refine wpList_store_row rfl 43 (.tmp 10) (.tmp 74) rfl w12.heap.size (caseC v1 A1 m1 c1 (some ⟨w10.heap.size, 0, none⟩) 3 3 (some ⟨w5.heap.size + 1, 0, none⟩) 3 3).toArray rfl rfl 43 zCase (Blk.new w12 _ _) (case_info C1.out.r16 C1.out.c16 C1.out.n16) (zCase_old C1.out.r16 C1.out.c16 C1.out.n16) (by simpa using caseC_all _ _ _ _ _ _ _ _ _ _) ?_; obtain ⟨w13, hV⟩ : ∃ W, W = (w12.alloc (.cells zCase 43)).setRow w12.heap.size (caseC v1 A1 m1 c1 (some ⟨w10.heap.size, 0, none⟩) 3 3 (some ⟨w5.heap.size + 1, 0, none⟩) 3 3).toArray := ⟨_, rfl⟩; rw [← hV]; obtain ⟨gb, nb⟩ := keybox2_ _ _ _ _ hV; have Q1 := Lib.hid nb; have G1 := Lib.hid gb; have F1 := Lib.hid (bel_on FB1.out gb); have K13 := Lib.hid (bel_on K12.out gb); have J13 := Lib.hid (bel_on J12.out gb); clear hV gb nb)
    | (refine wpList_load_row rfl 37 (.tmp 4) rfl w7.heap.size rfl 37 rg.toArray (0, 0) _ (HX8.out _ J13.out) Tryz.underlying37 rfl HRI.out ?_))
  --MARK B1
  obtain ⟨w14, hw14⟩ : ∃ W, W = w13.alloc (.cells #[.int .u8 1, .int .u8 0, .int .u8 1] 5) := ⟨_, rfl⟩
  have Y13 : Hid (BR w14 (some ⟨w13.heap.size, 0, none⟩) 3 [1, 0, 1]) := by unfold Hid; rw [hw14]; exact (Blk.new w13 5 (cellsB [1, 0, 1]).toArray).brn rfl (by omega)
  have fa2 : Below w13.heap.size w13 w14 := by rw [hw14]; exact alloc_bel _ _
  have K14 : Hid (Below w.heap.size w w14) := bel_on K13.out (by rw [hw14]; exact alloc_bel _ _)
  have J14 : Hid (Below w8.heap.size w8 w14) := bel_on J13.out (by rw [hw14]; exact alloc_bel _ _)
  have Hw14 := Lib.hid hw14
  clear hw14
  rw [← Hw14.out]
  --MARK A2
  refine (HAC2.out _ _ J14.out Y13.out).mono ?_
  rintro e w15 ⟨⟨A2, c2, rfl, hp2⟩, hb2⟩
  have K15 : Hid (Below w.heap.size w w15) := bel_on K14.out hb2
  have J15 : Hid (Below w8.heap.size w8 w15) := bel_on J14.out hb2
  have FB2 : Hid (Below w13.heap.size w13 w15) := bel_on fa2 hb2
  have C2 : Hid (CaseOK w15 v2 A2 m2 c2 (some ⟨w13.heap.size, 0, none⟩) 3 3 (some ⟨w5.heap.size + 1 + 1, 0, none⟩) 3 3) := hp2
  clear hb2 hp2 fa2
  go_wp2_with (first
    | ((first | rw [zero55_] | skip); refine wpList_store_row rfl 43 (.tmp 11) (.tmp 80) rfl w15.heap.size (caseC v2 A2 m2 c2 (some ⟨w13.heap.size, 0, none⟩) 3 3 (some ⟨w5.heap.size + 1 + 1, 0, none⟩) 3 3).toArray rfl rfl 43 zCase (Blk.new w15 _ _) (case_info C2.out.r16 C2.out.c16 C2.out.n16) (zCase_old C2.out.r16 C2.out.c16 C2.out.n16) (by simpa using caseC_all _ _ _ _ _ _ _ _ _ _) ?_; obtain ⟨w16, hV⟩ : ∃ W, W = (w15.alloc (.cells zCase 43)).setRow w15.heap.size (caseC v2 A2 m2 c2 (some ⟨w13.heap.size, 0, none⟩) 3 3 (some ⟨w5.heap.size + 1 + 1, 0, none⟩) 3 3).toArray := ⟨_, rfl⟩; rw [← hV]; obtain ⟨gb, nb⟩ := keybox2_ _ _ _ _ hV; have Q2 := Lib.hid nb; have G2 := Lib.hid gb; have F2 := Lib.hid (bel_on FB2.out gb); have K16 := Lib.hid (bel_on K15.out gb); have J16 := Lib.hid (bel_on J15.out gb); clear hV gb nb)
    | (refine wpList_load_row rfl 43 (.tmp 10) rfl w12.heap.size rfl 43 (caseC v1 A1 m1 c1 (some ⟨w10.heap.size, 0, none⟩) 3 3 (some ⟨w5.heap.size + 1, 0, none⟩) 3 3).toArray (0, 0) _ (Q1.out.below' F2.out) Tryz.underlying43 rfl (case_info C1.out.r16 C1.out.c16 C1.out.n16) ?_))
  --MARK B2
  have L1 : Hid (CaseOK w16 v1 A1 m1 c1 (some ⟨w10.heap.size, 0, none⟩) 3 3 (some ⟨w5.heap.size + 1, 0, none⟩) 3 3) := C1.out.below (bel_on G1.out F2.out)
  have M1 : Hid (Blk w16 w12.heap.size 43 (caseC v1 A1 m1 c1 (some ⟨w10.heap.size, 0, none⟩) 3 3 (some ⟨w5.heap.size + 1, 0, none⟩) 3 3).toArray) := (Q1.out.below' F2.out)
  skip
  refine (Judge_any v1 A1 m1 c1 _ 3 3 (some ⟨w5.heap.size + 1, 0, none⟩) 3 3 _ L1.out (HT.out.below_ K16.out)).mono ?_
  rw [HV1.out]
  rintro e w17 ⟨rfl, hj1⟩
  have K17 : Hid (Below w.heap.size w w17) := bel_on K16.out hj1
  have B17 := Lib.hid hj1
  clear hj1
  have L2 : Hid (CaseOK w17 v2 A2 m2 c2 (some ⟨w13.heap.size, 0, none⟩) 3 3 (some ⟨w5.heap.size + 1 + 1, 0, none⟩) 3 3) := C2.out.below (bel_on G2.out B17.out)
  have M2 : Hid (Blk w17 w15.heap.size 43 (caseC v2 A2 m2 c2 (some ⟨w13.heap.size, 0, none⟩) 3 3 (some ⟨w5.heap.size + 1 + 1, 0, none⟩) 3 3).toArray) := (Q2.out.below' B17.out)
  go_wp2_with (first | (refine wpList_load_row rfl 43 (.tmp 11) rfl w15.heap.size rfl 43 (caseC v2 A2 m2 c2 (some ⟨w13.heap.size, 0, none⟩) 3 3 (some ⟨w5.heap.size + 1 + 1, 0, none⟩) 3 3).toArray (0, 0) _ M2.out Tryz.underlying43 rfl (case_info C2.out.r16 C2.out.c16 C2.out.n16) ?_))
  refine (Judge_any v2 A2 m2 c2 _ 3 3 (some ⟨w5.heap.size + 1 + 1, 0, none⟩) 3 3 _ L2.out (HT.out.below_ K17.out)).mono ?_
  rw [HV2.out]
  rintro e w18 ⟨rfl, hj2⟩
  have K18 : Hid (Below w.heap.size w w18) := bel_on K17.out hj2
  clear hj2
  --MARK 4
  go_wp2_with fail
  go_ret
  exact ⟨by simp, K18.out⟩
end Go.Proofs.YtchnaimpmegbkaaGreatDoor

/- Two different texts with one digest are found. -/
namespace Go.Proofs.YtchnaimpmegbkaaGreatDoor
open Go.RowKit
set_option linter.unusedVariables false
set_option linter.unusedSimpArgs false
attribute [local go_sem] equalIn_keys

/-- A list of texts in memory. -/
structure TRow where
  A : Option Addr
  c : Nat
  rs : List BRow
def TRow.v (r : TRow) : Value := .slice r.A r.rs.length r.c
theorem toList_loop (bs : ByteArray) : ∀ (n i : Nat) (r : List UInt8), bs.size - i = n → ByteArray.toList.loop bs i r = r.reverse ++ bs.data.toList.drop i := by
  intro n
  induction n with
  | zero =>
    intro i r h
    rw [ByteArray.toList.loop, if_neg (by omega)]
    rw [List.drop_eq_nil_of_le (by have h1 : bs.data.toList.length = bs.size := (by rw [Array.length_toList]; rfl); omega)]
    simp
  | succ n ih =>
    intro i r h
    have hi : i < bs.size := by omega
    rw [ByteArray.toList.loop, if_pos hi, ih (i + 1) _ (by omega)]
    have hl : i < bs.data.toList.length := by simpa using hi
    rw [List.drop_eq_getElem_cons hl]
    have : bs.get! i = bs.data.toList[i] := by
      simp only [ByteArray.get!]
      have hx : i < bs.data.size := hi
      rw [getElem!_pos bs.data i hx]
      simp
    simp [this]
theorem toList_inj_ {a b : ByteArray} (h : a.toList = b.toList) : a = b := by
  have e (c : ByteArray) : c.toList = c.data.toList := by
    show ByteArray.toList.loop c 0 [] = _
    rw [toList_loop c _ 0 [] rfl]; simp
  rw [e, e] at h
  cases a; cases b
  have := Array.toList_inj.1 h
  simp at this
  rw [this]
theorem key_ne {x y : List UInt8} (h : x ≠ y) : (x == y) = false := by simpa using h
theorem keybox3_ (w : World) (c0 z0 : Array Value) (t0 : TypeId) {W : World} (hW : W = (w.alloc (.cells z0 t0)).setRow w.heap.size c0) : Below w.heap.size w W ∧ Blk W w.heap.size t0 c0 := by
  subst hW
  exact ⟨below_setRow (alloc_bel w _) (Nat.le_refl _) _, (Blk.new w _ _).setRow _⟩

end Go.Proofs.YtchnaimpmegbkaaGreatDoor

/- Rows of bytes of one's own: stores. -/
namespace Go.Proofs.YtchnaimpmegbkaaGreatDoor
open Go.RowKit
set_option linter.unusedVariables false

theorem OB.room {B : Nat} {w : World} {A : Option Addr} {c : Nat} {l : List UInt8} (h : OB B w A c l) {i : Nat} (hi : i < l.length) : ∃ g, A = some ⟨g, 0, none⟩ ∧ B ≤ g ∧ g < w.heap.size ∧ w.cell? ⟨g, i, none⟩ = some (.int .u8 (bt l i : Int)) ∧ w.frozen? ⟨g, i, none⟩ = false ∧
    ∀ v : UInt8, OB B (w.setCell ⟨g, i, none⟩ (.int .u8 (v.toNat : Int))) A c (l.set i v) := by
  rcases h.2 with ⟨_, h0⟩ | ⟨g, cap, cur, hv, hB, hh, hnc, hm, hs, ht⟩
  · exact absurd h0 (by omega)
  · injection hv with h1 _ h3
    subst h1 h3
    have hb : Blk w g 5 cur := hh
    have hle : l.length ≤ cur.size := by rw [hs]; omega
    have hcur : cur[i]? = (cellsB l)[i]? := by
      rw [← ht, List.getElem?_take, if_pos (by omega)]; simp
    refine ⟨g, rfl, hB, hb.lt, ?_, hb.frozen i, fun v => ⟨by simp [cellsB], .inr ⟨g, _, cur.setIfInBounds i (.int .u8 (v.toNat : Int)), by rw [List.length_set], hB, hb.set_ i _, by rw [List.length_set]; exact hnc, hm, by rw [Array.size_setIfInBounds]; exact hs, ?_⟩⟩⟩
    · rw [hb.cell i, hcur, cellsB_get l i hi]
      simp [bt, List.getD, List.getElem?_eq_getElem hi]
    · rw [List.length_set, cellsB_set, ← ht, Array.toList_setIfInBounds, List.take_set]
/-- A store into another block leaves the row. -/
theorem OB.other {B : Nat} {w : World} {g c : Nat} {l : List UInt8} (h : OB B w (some ⟨g, 0, none⟩) c l) {p : Addr} (hp : g ≠ p.block) (u : Value) : OB B (w.setCell p u) (some ⟨g, 0, none⟩) c l := by
  refine World.ownsRow.kept h (⟨rfl, rfl, rfl, by simp, fun k hk hne => Below.heap_setCell w p u k (by simpa using hne)⟩ : w.grownBy (w.setCell p u) (some p.block)) ?_
  by_cases hv : (Value.slice (some ⟨g, 0, none⟩) l.length c).ownBlock = none
  · exact .inl hv
  · refine .inr fun e => hp ?_
    simp [Value.ownBlock] at e
    omega
end Go.Proofs.YtchnaimpmegbkaaGreatDoor

/- Texts that a call returns, with the memory that they own. -/
namespace Go.Proofs.YtchnaimpmegbkaaGreatDoor
open Go.RowKit
set_option linter.unusedVariables false
set_option linter.unusedSimpArgs false
attribute [local go_sem] run_storeCells_key run_storeCells_new equalIn_keys

def OwnT (B : Nat) (w : World) (A : Option Addr) (c : Nat) (rs : List BRow) : Prop := RO B w A c rs ∧ ∀ r ∈ rs, OB B w r.A r.c r.l ∧ r.l.length ≤ 1000
theorem OwnT.below {B : Nat} {w w' : World} {A : Option Addr} {c : Nat} {rs : List BRow} (h : OwnT B w A c rs) (hb : Below w.heap.size w w') : OwnT B w' A c rs := ⟨h.1.below hb, fun r hr => ⟨(h.2 r hr).1.below hb, (h.2 r hr).2⟩⟩
theorem OwnT.le_ {B B' : Nat} {w : World} {A : Option Addr} {c : Nat} {rs : List BRow} (h : OwnT B w A c rs) (hB : B' ≤ B) : OwnT B' w A c rs :=
  ⟨⟨h.1.1, h.1.2.elim Or.inl (fun ⟨g, cap, cur, hv, hg, r⟩ => Or.inr ⟨g, cap, cur, hv, Nat.le_trans hB hg, r⟩)⟩, fun r hr => ⟨(h.2 r hr).1.le_ hB, (h.2 r hr).2⟩⟩
theorem OwnT.rr {B : Nat} {w : World} {A : Option Addr} {c : Nat} {rs : List BRow} (h : OwnT B w A c rs) (hl : rs.length ≤ 100000) : RR w A c rs := h.1.rr (by omega) fun r hr => (h.2 r hr).1.br (by have := (h.2 r hr).2; omega)
theorem TX.own {B : Nat} {w : World} {g : Nat} {ts : List (List UInt8)} (h : TX B w g ts) : ∃ A c rs, w.cell? ⟨g, 0, none⟩ = some (.slice A rs.length c) ∧ rs.map BRow.l = ts ∧ OwnT B w A c rs := by
  obtain ⟨A, c, rs, h1, h2, h3, h4, h5, h6⟩ := h
  exact ⟨A, c, rs, h3.cell 0, h1, h4, fun r hr => ⟨h5 r hr, h6 r.l (by rw [← h1]; exact List.mem_map.2 ⟨r, hr, rfl⟩)⟩⟩
def TxOwn (B : Nat) (ts : List (List UInt8)) (e : Ending) (w' : World) : Prop := ∃ A c rs, e = .returned (.tuple #[.slice A rs.length c, .int .i64 0]) ∧ rs.map BRow.l = ts ∧ OwnT B w' A c rs
def GvOwn (B : Nat) (r : List UInt8) (ts : List (List UInt8)) (e : Ending) (w' : World) : Prop := ∃ A c rs, e = .returned (.tuple #[.agg (cellsB r).toArray, .slice A rs.length c]) ∧ rs.map BRow.l = ts ∧ OwnT B w' A c rs
set_option maxHeartbeats 1000000 in
set_option maxRecDepth 100000 in
theorem Texts_own (ks : List (List UInt8)) (A : Option Addr) (c : Nat) (w : World) {n : Nat} (hn : ks.length = n) (h : KR w A c ks) (h1 : 1 ≤ n) (hw : n ≤ 128) :
    Calls Tryz.prog 12 #[.slice A n c] w fun e w' => TxOwn w.heap.size (textsS ks) e w' ∧ Below w.heap.size w w' := by
  have hnl : (n : Int) ≤ 140737488351232 := by have := h.len; omega
  have hwi : (n : Int) ≤ 128 := by omega
  have h1i : (1 : Int) ≤ n := by omega
  have hne : ¬ (n : Int) = 0 := by omega
  have hlt : ¬ (128 : Int) < n := by omega
  have hle := textsS_le n ks hn h1
  have b0 := alloc_bel w (.cells #[.slice none 0 0] 86)
  have HF := Lib.hid (textFold_any w w.heap.size n ks A c [] (w.alloc (.cells #[.slice none 0 0] 86)) hn h1 (by omega) h b0 (TX.new w) (by simp; omega))
  generalize textsS ks = ts at HF hle ⊢
  generalize rootS ks = rt at HF
  rw [List.nil_append] at HF
  have HLE : Hid (ts.length ≤ 100000) := by unfold Hid; omega
  clear hn h hw hle
  go_enter Tryz.func12, Tryz.ntmps12
  go_wp2_with (go_at_call 32; refine (HF.out).mono ?_; rintro e w1 ⟨rfl, ht1, hk1, hb1⟩; obtain ⟨A1, c1, rs, hc1, hrs, hrr⟩ := ht1.own; have HRS := Lib.hid hrs; have HRR := Lib.hid hrr; have B1 := Lib.hid (b0.trans hb1); generalize hq : rs.length = q at hc1; have HQ := Lib.hid hq; clear hrs hrr ht1 hk1 hb1 hq)
  go_ret2
  exact ⟨⟨A1, c1, rs, by rw [HQ.out]; rfl, HRS.out, HRR.out⟩, B1.out⟩
set_option maxHeartbeats 2000000 in
set_option maxRecDepth 100000 in
theorem given_own (leaf : List UInt8) (n i : Nat) (P : List (List UInt8)) (A : Option Addr) (c : Nat) (w : World) {m : Nat} (hm : P.length = m) (hl : leaf.length = 16) (h1 : 1 ≤ n) (h2 : n ≤ 128) (hi : i < n) (hp : P.length = stepsS n i) (h : KR w A c P) :
    Calls Tryz.prog 38 #[.agg (cellsB leaf).toArray, .agg #[.int .i64 (n : Int), .int .i64 (i : Int), .slice A m c]] w fun e w' => GvOwn w.heap.size (climbS leaf n i P).1 (climbS leaf n i P).2 e w' ∧ Below w.heap.size w w' := by
  have HZ := Lib.hid zero16
  have HK := Lib.hid hl
  have b0 := alloc3_bel w (.cells (cellsB leaf).toArray 23) (.cells #[.int .i64 (n : Int), .int .i64 (i : Int), .slice A m c] 41) (.cells (cellsB zeroK).toArray 23)
  have L0 := Lib.hid (blk_a0 w (cellsB leaf).toArray 23 (.cells #[.int .i64 (n : Int), .int .i64 (i : Int), .slice A m c] 41) (.cells (cellsB zeroK).toArray 23))
  have R0 := Lib.hid (blk_a2 w (.cells (cellsB leaf).toArray 23) (.cells #[.int .i64 (n : Int), .int .i64 (i : Int), .slice A m c] 41) (cellsB zeroK).toArray 23)
  obtain ⟨W3, hW3⟩ : ∃ W, W = ((w.alloc (.cells (cellsB leaf).toArray 23)).alloc (.cells #[.int .i64 (n : Int), .int .i64 (i : Int), .slice A m c] 41)).alloc (.cells (cellsB zeroK).toArray 23) := ⟨_, rfl⟩
  have hsz : W3.heap.size = w.heap.size + 1 + 1 + 1 := by rw [hW3]; simp
  have ht0 := TX.new W3
  have b3 := alloc_bel W3 (.cells #[.slice none 0 0] 86)
  have hle := climbS_le leaf n i P h1
  have hrl := climbS_length leaf n i P
  have HC := climb_any W3 W3.heap.size leaf hl n i P A c [] (W3.alloc (.cells #[.slice none 0 0] 86)) h1 (by omega) hi hp (by rw [hW3]; exact h.below b0) b3 ht0 (by simp; omega)
  rw [hm, List.nil_append] at HC
  have HSZ := Lib.hid hsz
  have HC' := Lib.hid HC
  have HW3 := Lib.hid hW3
  rw [← hW3] at b0 L0 R0
  generalize climbS leaf n i P = r at HC' hle hrl HC ⊢
  obtain ⟨q, x⟩ := r
  dsimp only at HC' hle hrl HC ⊢
  have HRL := Lib.hid hrl
  have hdc : (cellsB q).length = 16 := by rw [cellsB_length, hrl]
  have hall := all16 q
  have HLE : Hid (x.length ≤ 100000) := by unfold Hid; omega
  clear hm hl h1 h2 hi hp h hsz HC ht0 hW3 hle hrl
  go_enter Tryz.func38, Tryz.ntmps38
  go_wp2_with (first
    | (refine wpList_load_row rfl 23 (.tmp 2) rfl w.heap.size rfl 23 (cellsB leaf).toArray (0, 0) _ (by rw [HZ.out, ← HW3.out]; exact (L0.out.alloc _)) under_key rfl (cellsB_size _ HK.out) ?_)
    | (go_at_call 70; rw [HZ.out, ← HW3.out, ← HSZ.out]; refine HC'.out.mono ?_; rintro e w1 ⟨rfl, ht1, hk1, hb1⟩; obtain ⟨A1, c1, rs, hc1, hrs, hrr⟩ := ht1.own; have tlt := ht1.lt; have B1 := Lib.hid (b3.trans hb1); have HTX := Lib.hid ht1; generalize hq : rs.length = k1 at hc1; have HQ := Lib.hid hq; have HC1 := Lib.hid hc1; clear hc1 hq hrs hrr ht1 hk1 hb1))
  have BA := alloc_bel w1 (.cells (cellsB q).toArray 23)
  have Q0 := Blk.new w1 23 (cellsB q).toArray
  have R1 : Blk (w1.alloc (.cells (cellsB q).toArray 23)) (w.heap.size + 1 + 1) 23 (cellsB zeroK).toArray := (R0.out.below' B1.out).alloc _
  have C1 : (w1.alloc (.cells (cellsB q).toArray 23)).cell? ⟨W3.heap.size, 0, none⟩ = some (.slice A1 k1 c1) := (BA.cell (p := ⟨W3.heap.size, 0, none⟩) tlt).trans HC1.out
  have RA := HTX.out.below BA
  have hne : w1.heap.size ≠ w.heap.size + 1 + 1 := by have := HSZ.out; omega
  have hne2 : W3.heap.size ≠ w.heap.size + 1 + 1 := by have := HSZ.out; omega
  rw [HSZ.out] at C1 hne2
  have BW : Below w.heap.size w (w1.alloc (.cells (cellsB q).toArray 23)) := bel_on (bel_on b0 B1.out) BA
  obtain ⟨W4, hW4⟩ : ∃ W, W = w1.alloc (.cells (cellsB q).toArray 23) := ⟨_, rfl⟩
  rw [← hW4] at Q0 R1 C1 RA BW ⊢
  clear hW4 BA HC1
  refine wp_region_noPanic ?_
  refine wp_region_held_drew (S := fun w' => w'.rangeAt w1.heap.size 0 (cellsB q) ∧ w'.cell? ⟨w.heap.size + 1 + 1 + 1, 0, none⟩ = some (.slice A1 k1 c1)) (by kernel_rfl) ⟨Q0.drew.range, C1⟩ (fun hS => ?_)
  refine hd_load 0 w1.heap.size 0 (cellsB q) _ _ rfl rfl rfl (by kernel_rfl) (by kernel_rfl) (by kernel_rfl) (fun _ _ _ h => h) rfl (fun w hw => hw.1) under_key rfl (key_info HRL.out) hS ?_
  refine hd_take 1 (.slice A1 k1 c1) rfl rfl (by kernel_rfl) (by kernel_rfl) (by kernel_rfl) (fun _ _ _ h => h) (fun w hw => by have hx := hw.2; simp [go_sem, HSZ.out, hx]) hS ?_
  simp only [List.getElem_toArray, List.getElem_cons_succ, List.getElem_cons_zero, Act.put, List.setIfInBounds_toArray, List.set_cons_zero, List.set_cons_succ]
  have hS7 := And.intro (range_setRow hS.1 (g' := w.heap.size + 1 + 1) hne (cellsB q).toArray) ((World.cell?_of_block (a := ⟨w.heap.size + 1 + 1 + 1, 0, none⟩) (setRow_other W4.drew (w.heap.size + 1 + 1) (w.heap.size + 1 + 1 + 1) (cellsB q).toArray (by omega))).trans hS.2)
  refine hd_store 2 (w.heap.size + 1 + 1) (cellsB q).toArray _ _ _ rfl rfl rfl (by kernel_rfl) rfl rfl R1.drew (cellsB_size _ HRL.out) (by rw [List.size_toArray, List.size_toArray, cellsB_length, cellsB_length, HRL.out]; rfl) (all_oneCell_toArray (cells_one q)) hS7 ?_
  refine hd_take 3 (_) rfl rfl (by kernel_rfl) (by kernel_rfl) (by kernel_rfl) (fun _ _ _ h => h) (fun w _ => by go_simp <;> rfl) hS7 ?_
  simp only [List.getElem_toArray, List.getElem_cons_succ, List.getElem_cons_zero, Act.put, List.setIfInBounds_toArray, List.set_cons_zero, List.set_cons_succ]
  refine wpAnyH_done (by kernel_rfl) (NoPanic.normal ?_) _
  have HRF := Lib.hid (R1.drew.setRow (cellsB q).toArray)
  have HBF := Lib.hid (below_setRow BW.drew (g := w.heap.size + 1 + 1) (by omega) (cellsB q).toArray)
  obtain ⟨A5, c5, rs5, hc5, hrs5, hrr5⟩ := ((RA.below (Below.refl _ _).drew).row R1.drew (cellsB q).toArray).own
  rw [HSZ.out, hS7.2] at hc5
  injection hc5 with hc5
  injection hc5 with e1 e2 e3
  subst e1 e3
  have HQ5 := Lib.hid e2
  have HRS5 := Lib.hid hrs5
  have HRR5 := Lib.hid hrr5
  clear hS hS7 Q0 R1 C1 RA BW e2 hrs5 hrr5
  go_wp2_with fail
  refine bodyPost_ret (v := .tuple #[.agg (cellsB q).toArray, .slice A1 k1 c1]) ?_ rfl ⟨⟨A1, c1, rs5, by rw [HQ5.out], HRS5.out, HRR5.out.le_ (by have := HSZ.out; omega)⟩, HBF.out⟩
  rw [results_cell_tmp Tryz.results38]
  simp [asAddr, Result.andThen, run_loadVar_row _ (w.heap.size + 1 + 1) _ _ _ (0, 0) _ HRF.out under_key rfl (cellsB_size _ HRL.out)]

set_option maxHeartbeats 2000000 in
set_option maxRecDepth 100000 in
theorem PathTexts_own (leaf : List UInt8) (a b : Int) (P : List (List UInt8)) (A : Option Addr) (c : Nat) (w : World) {m : Nat} (hm : P.length = m) (hl : leaf.length = 16) (h : KR w A c P) (hf : fitsB a b m = true) :
    Calls Tryz.prog 13 #[.agg (cellsB leaf).toArray, .agg #[.int .i64 a, .int .i64 b, .slice A m c]] w fun e w' => TxOwn w.heap.size (climbS leaf a.toNat b.toNat P).2 e w' ∧ Below w.heap.size w w' := by
  have HK := Lib.hid hl
  have b0 := alloc2_bel w (.cells (cellsB leaf).toArray 23) (.cells #[.int .i64 a, .int .i64 b, .slice A m c] 41)
  have L0 := Lib.hid (blk_b0 w (cellsB leaf).toArray 23 (.cells #[.int .i64 a, .int .i64 b, .slice A m c] 41))
  have P0 := Lib.hid (blk_b1 w (.cells (cellsB leaf).toArray 23) #[.int .i64 a, .int .i64 b, .slice A m c] 41)
  have hml := h.len
  have HF : Hid (∀ W, Calls Tryz.prog 31 #[.agg #[.int .i64 a, .int .i64 b, .slice A m c]] W fun e w' => e = .returned (.bool (fitsB a b m)) ∧ Below W.heap.size W w') := fun W => fits_any a b A m c W (by omega)
  rw [hf] at HF
  obtain ⟨⟨g1, g2, g3, g4⟩, g5⟩ := fitsB_iff.1 hf
  have HG : Hid (∀ W, Below w.heap.size w W → Calls Tryz.prog 38 #[.agg (cellsB leaf).toArray, .agg #[.int .i64 a, .int .i64 b, .slice A m c]] W fun e w' => GvOwn w.heap.size (climbS leaf a.toNat b.toNat P).1 (climbS leaf a.toNat b.toNat P).2 e w' ∧ Below W.heap.size W w') := fun W hW => by
    have := given_own leaf a.toNat b.toNat P A c W hm hl (by omega) (by omega) (by omega) (by rw [hm]; exact g5) (h.below hW)
    rw [Int.toNat_of_nonneg (by omega), Int.toNat_of_nonneg (by omega)] at this
    exact this.mono fun e w' ⟨⟨A', c', rs, q1, q2, q3⟩, q4⟩ => ⟨⟨A', c', rs, q1, q2, q3.le_ hW.size⟩, q4⟩
  have hrl := climbS_length leaf a.toNat b.toNat P
  generalize climbS leaf a.toNat b.toNat P = r at HG hrl ⊢
  obtain ⟨q, x⟩ := r
  unfold GvOwn at HG
  dsimp only at HG hrl ⊢
  have hdc : (cellsB q).length = 16 := by rw [cellsB_length, hrl]
  have hall := all16 q
  clear hf hm hl h hml g1 g2 g3 g4 g5 hrl
  go_enter Tryz.func13, Tryz.ntmps13
  go_wp2_with (first
    | (go_at_call 31; refine (HF.out _).mono ?_; rintro e w1 ⟨rfl, hb1⟩; have B1 := bel_on b0 hb1; have L1 := Lib.hid (L0.out.below' hb1); have P1 := P0.out.below' hb1; have p0 : w1.cell? ⟨w.heap.size + 1, 0, none⟩ = some (.int .i64 a) := P1.cell 0; have p1 : w1.cell? ⟨w.heap.size + 1, 1, none⟩ = some (.int .i64 b) := P1.cell 1; have p2 : w1.cell? ⟨w.heap.size + 1, 2, none⟩ = some (.slice A m c) := P1.cell 2; clear P1 hb1)
    | (refine wpList_load_row rfl 23 (.tmp 2) rfl w.heap.size rfl 23 (cellsB leaf).toArray (0, 0) _ L1.out under_key rfl (cellsB_size _ HK.out) ?_)
    | (go_at_call 38; refine (HG.out _ B1).mono ?_; rintro e w2 ⟨⟨A2, c2, rs, rfl, hrs, hrr⟩, hb2⟩; have B2 := Lib.hid (bel_on B1 hb2); have HRS := Lib.hid hrs; have HRR := Lib.hid hrr; generalize hq : rs.length = k; have HQ := Lib.hid hq; clear hb2 hrs hrr hq))
  go_ret2
  exact ⟨⟨A2, c2, rs, by rw [HQ.out]; rfl, HRS.out, HRR.out.below (alloc_bel _ _)⟩, bel_on B2.out (alloc_bel _ _)⟩
theorem wpList_append_texts2 (w : World) {ops : Array Oper} {rest : List Oper} {o : Oper} {a : Act} {Q : Exit → Act → World → Prop} (hgd : Region.wanted o (yielded ops a.tmps) = true) (s x : Operand)
    (ho : o.op = .call { callee := .builtin .append, args := #[s, x], argTypes := #[30, 30] })
    (B : Nat) (A : Option Addr) (n c : Nat) (rs : List BRow) (hn : rs.length = n) (hs : a.eval s = .slice A n c) (hown : OwnT B w A c rs)
    (X : Option Addr) (m d : Nat) (news : List BRow) (hm : news.length = m) (hx : a.eval x = .slice X m d) (B2 : Nat) (hnew : OwnT B2 w X d news)
    (hlen : n + m ≤ 100000) (hB : B ≤ w.heap.size)
    (h : ∀ A' c' w', RR w' A' c' (rs ++ news) → Below B w w' → wpList Tryz.prog ops Q rest (a.put o.dst (.slice A' (n + m) c')) w') : wpList Tryz.prog ops Q (o :: rest) a w := by
  obtain ⟨i0, hi, hz0, hz1, hz2⟩ := info_parts rows_info
  subst hn hm
  refine BigFrame.wpList_want hgd fun K hK => ?_
  obtain ⟨A', c', w', hrun, h1, h2, h3⟩ := run_append_src (P := Tryz.prog) w B 30 o.type 31 i0 (.slice none 0 0) 1 24 Tryz.underlying30 hi hz0 hz1 hz2 rfl (by omega) A rs.length c (rs.map BRow.v) hown.1 X news.length d (news.map BRow.v) (Rd.src (hnew.rr (by omega)).1) (by intro u hu; obtain ⟨r, _, rfl⟩ := List.mem_map.1 hu; rfl)
    (by simp only [maxLen]; omega) (by omega) hB
  unfold Oper.wp execOp
  simp only [ho, resolve, invoke, builtin, Sem.run_bind, Sem.run_pure, Result.andThen_ok, List.map_toArray, List.map_cons, List.map_nil, hs, hx, hrun]
  refine hK _ _ ?_
  refine h A' c' w' ?_ (grown_below (Below.refl _ _) hown.1 h2 hB (Nat.le_refl _))
  have hro : RO B w' A' c' (rs ++ news) := by
    unfold RO
    rw [List.map_append, List.length_append]
    exact h1
  have hg := hown.1
  unfold RO at hg
  refine hro.rr (by rw [List.length_append]; omega) fun r hr => ?_
  rcases List.mem_append.1 hr with hr | hr
  · exact OB.br (own_kept (hown.2 r hr).1 hg (by decide) h2) (by have := (hown.2 r hr).2; omega)
  · exact OB.br (own_kept (hnew.2 r hr).1 hg (by decide) h2) (by have := (hnew.2 r hr).2; omega)
end Go.Proofs.YtchnaimpmegbkaaGreatDoor

/- Two different texts with one digest among some texts: the top's search. -/
namespace Go.Proofs.YtchnaimpmegbkaaGreatDoor
open Go.RowKit
set_option linter.unusedVariables false
set_option linter.unusedSimpArgs false
attribute [local go_sem] equalIn_keys

set_option maxHeartbeats 8000000 in
set_option maxRecDepth 100000 in
theorem clashing_any (A : Option Addr) (c : Nat) (rs : List BRow) (w : World) {q : Nat} (hq2 : rs.length = q) (hR : RR w A c rs) (hq5 : q ≤ 100000) (hts : ∀ r ∈ rs, r.l.length ≤ 16384) (hC : Clash (rs.map BRow.l)) :
    Calls Tryz.prog 14 #[.slice A q c] w fun e w' => e = .returned (.bool true) ∧ Below w.heap.size w w' := by
  have hqi : (q : Int) ≤ 100000 := by omega
  have HRW := Lib.hid hR
  have HTL := Lib.hid hts
  have HQ2 := Lib.hid hq2
  have HCL := Lib.hid hC
  clear hq2 hR hts hC
  go_enter Tryz.func14, Tryz.ntmps14
  go_wp2_with fail
  go_loopw [3] (fun vi wr => ∃ i : Nat, i ≤ q ∧ vi = .int .i64 (i : Int) ∧ Hid (∀ a b (ha : a < rs.length) (hb : b < rs.length), b < a → a < i → digS rs[a].l = digS rs[b].l → rs[a].l = rs[b].l) ∧ Below w.heap.size w wr) (fun vi _ => q - (intOf vi).toNat)
  case atStart => exact ⟨0, by omega, rfl, fun a b ha hb h1 h2 => by omega, Below.refl _ _⟩
  case round =>
    obtain ⟨u, hu, rfl, HX, hbel⟩ := hrel
    by_cases hlt2 : u < q
    · have hui : (u : Int) < q := by omega
      have hu0 : (0 : Int) ≤ u := by omega
      go_wp2_with fail
      go_loopw [4] (fun vk wr => ∃ k : Nat, k ≤ u ∧ vk = .int .i64 (k : Int) ∧ Hid (∀ b (ha : u < rs.length) (hb : b < rs.length), b < k → digS rs[u].l = digS rs[b].l → rs[u].l = rs[b].l) ∧ Below w.heap.size w wr) (fun vk _ => u - (intOf vk).toNat)
      case atStart => exact ⟨0, by omega, rfl, fun b ha hb h1 => by omega, hbel⟩
      case round =>
        obtain ⟨k, hk, rfl, HY, hbel2⟩ := hrel
        by_cases hlt3 : k < u
        · have hki : (k : Int) < u := by omega
          have hk0 : (0 : Int) ≤ k := by omega
          have hkq : (k : Int) < q := by omega
          obtain ⟨b1, o1, r1, e1, hb1, hr1, hc1, hl1⟩ := HRW.out.cellAt (i := u) (by have := HQ2.out; omega)
          subst e1
          obtain ⟨b2, o2, r2, e2, hb2, hr2, hc2, hl2⟩ := HRW.out.cellAt (i := k) (by have := HQ2.out; omega)
          injection e2 with e2
          injection e2 with e2 e3
          subst e2 e3
          have hs1 := HTL.out r1 (List.mem_of_getElem? hr1)
          have hs2 := HTL.out r2 (List.mem_of_getElem? hr2)
          have HZ1 : Hid (∀ (ha : u < rs.length), rs[u] = r1) := fun ha => by rw [List.getElem?_eq_getElem ha] at hr1; injection hr1
          have HZ2 : Hid (∀ (ha : k < rs.length), rs[k] = r2) := fun ha => by rw [List.getElem?_eq_getElem ha] at hr2; injection hr2
          obtain ⟨A1, d1, l1⟩ := r1
          obtain ⟨A2, d2, l2⟩ := r2
          dsimp only at hc1 hl1 hs1 hc2 hl2 hs2
          obtain ⟨q1, hq1⟩ : ∃ q, l1.length = q := ⟨_, rfl⟩
          obtain ⟨q2, hq2⟩ : ∃ q, l2.length = q := ⟨_, rfl⟩
          rw [hq1] at hc1 hs1
          rw [hq2] at hc2 hs2
          have HH1 : Hid (∀ W, Below w.heap.size w W → Calls Tryz.prog 39 #[.slice A1 q1 d1] W fun e w' => e = .returned (.tuple #[.agg (cellsB (digS l1)).toArray, .int .i64 0]) ∧ Below W.heap.size W w') := fun W hW => Hash_any l1 A1 d1 W hq1 (hl1.below hW) hs1
          have HH2 : Hid (∀ W, Below w.heap.size w W → Calls Tryz.prog 39 #[.slice A2 q2 d2] W fun e w' => e = .returned (.tuple #[.agg (cellsB (digS l2)).toArray, .int .i64 0]) ∧ Below W.heap.size W w') := fun W hW => Hash_any l2 A2 d2 W hq2 (hl2.below hW) hs2
          have HD1 : Hid ((digS l1).length = 16) := digS_length _
          have HD2 : Hid ((digS l2).length = 16) := digS_length _
          have HE : Hid (∀ (ha : u < rs.length) (hb : k < rs.length), (digS rs[u].l = digS rs[k].l → rs[u].l = rs[k].l) ↔ (digS l1 = digS l2 → l1 = l2)) := fun ha hb => by rw [HZ1.out ha, HZ2.out hb]
          have HC1 : Hid (∀ W, Below w.heap.size w W → W.cell? ⟨b1, o1 + u, none⟩ = some (.slice A1 q1 d1)) := fun W hW => (hW.cell (p := ⟨b1, o1 + u, none⟩) hb1).trans hc1
          have HC2 : Hid (∀ W, Below w.heap.size w W → W.cell? ⟨b1, o1 + k, none⟩ = some (.slice A2 q2 d2)) := fun W hW => (hW.cell (p := ⟨b1, o1 + k, none⟩) hb1).trans hc2
          have HB1 : Hid (∀ W, Below w.heap.size w W → BR W A1 d1 l1) := fun W hW => hl1.below hW
          have HB2 : Hid (∀ W, Below w.heap.size w W → BR W A2 d2 l2) := fun W hW => hl2.below hW
          generalize digS l1 = g1 at HH1 HD1 HE
          generalize digS l2 = g2 at HH2 HD2 HE
          have HQ1 := Lib.hid hq1
          have HQ2' := Lib.hid hq2
          have hcx := HC1.out wr hbel2
          have hbx : b1 < wr.heap.size := Nat.lt_of_lt_of_le hb1 hbel2.size
          have D0 := Lib.hid hbel2
          clear hc1 hc2 hl1 hl2 hs1 hs2 hr1 hr2 hq1 hq2 HZ1 HZ2 hbel hb1 hb2 hbel2
          go_wp2_with (first
            | (go_at_call 39; (with_reducible refine (HH1.out _ D0.out).mono ?_); rintro e w1 ⟨rfl, hb⟩; have D1 := Lib.hid (bel_on D0.out hb); clear hb hcx)
            | ((first | rw [zero16] | skip); refine wpList_store_row rfl 23 (.tmp 5) (.tmp 26) rfl w1.heap.size (cellsB g1).toArray rfl rfl 23 (cellsB zeroK).toArray (Blk.new w1 _ _) (cellsB_size _ HD1.out) (cellsB_sizes _ _ zeroK_length HD1.out) (cellsB_all _) ?_; obtain ⟨w2, hV⟩ : ∃ W, W = (w1.alloc (.cells (cellsB zeroK).toArray 23)).setRow w1.heap.size (cellsB g1).toArray := ⟨_, rfl⟩; rw [← hV]; obtain ⟨gb, nb⟩ := keybox3_ _ _ _ _ hV; have D2 := Lib.hid (bel_on D1.out gb); have X2 := Lib.hid nb; have hcx := HC2.out _ D2.out; clear hV gb nb)
            | (go_at_call 39; (with_reducible refine (HH2.out _ D2.out).mono ?_); rintro e w3 ⟨rfl, hb⟩; have D3 := Lib.hid (bel_on D2.out hb); have X3 := Lib.hid (X2.out.below' hb); clear hb hcx)
            | ((first | rw [zero16] | skip); refine wpList_store_row rfl 23 (.tmp 7) (.tmp 34) rfl w3.heap.size (cellsB g2).toArray rfl rfl 23 (cellsB zeroK).toArray (Blk.new w3 _ _) (cellsB_size _ HD2.out) (cellsB_sizes _ _ zeroK_length HD2.out) (cellsB_all _) ?_; obtain ⟨w4, hV⟩ : ∃ W, W = (w3.alloc (.cells (cellsB zeroK).toArray 23)).setRow w3.heap.size (cellsB g2).toArray := ⟨_, rfl⟩; rw [← hV]; obtain ⟨gb, nb⟩ := keybox3_ _ _ _ _ hV; have D4 := Lib.hid (bel_on D3.out gb); have X4 := Lib.hid (X3.out.below' gb); have Y4 := Lib.hid nb; clear hV gb nb))
          have HS : Hid (∀ W, Below w4.heap.size w4 W → W.rangeAt w1.heap.size 0 (cellsB g1) ∧ W.rangeAt w3.heap.size 0 (cellsB g2) ∧ W.cell? ⟨b1, o1 + u, none⟩ = some (.slice A1 q1 d1) ∧ W.cell? ⟨b1, o1 + k, none⟩ = some (.slice A2 q2 d2) ∧ BR W A1 d1 l1 ∧ BR W A2 d2 l2) := fun W hW => ⟨(X4.out.below' hW).range, (Y4.out.below' hW).range, HC1.out _ (bel_on D4.out hW), HC2.out _ (bel_on D4.out hW), HB1.out _ (bel_on D4.out hW), HB2.out _ (bel_on D4.out hW)⟩
          have E4 : Below w4.heap.size w4 w4 := Below.refl _ _
          refine wp_region_noPanic ?_
          refine wp_region_held_drew (S := fun W => W.rangeAt w1.heap.size 0 (cellsB g1) ∧ W.rangeAt w3.heap.size 0 (cellsB g2) ∧ W.cell? ⟨b1, o1 + u, none⟩ = some (.slice A1 q1 d1) ∧ W.cell? ⟨b1, o1 + k, none⟩ = some (.slice A2 q2 d2) ∧ BR W A1 d1 l1 ∧ BR W A2 d2 l2) (by kernel_rfl) (HS.out _ E4.drew) (fun hS => ?_)
          have E4 := Lib.hid (bel_on D4.out E4.drew)
          clear HS D0 D1 D2 D3 X2 X3 X4 Y4
          refine hd_take 0 (_) rfl rfl (by kernel_rfl) (by kernel_rfl) (by kernel_rfl) (fun _ _ _ h => h) (fun w hw => by go_simp <;> rfl) hS ?_
          simp only [List.getElem_toArray, List.getElem_cons_succ, List.getElem_cons_zero, Act.put, List.setIfInBounds_toArray, List.set_cons_zero, List.set_cons_succ]
          refine hd_take 1 (_) rfl rfl (by kernel_rfl) (by kernel_rfl) (by kernel_rfl) (fun _ _ _ h => h) (fun w hw => by go_simp <;> rfl) hS ?_
          simp only [List.getElem_toArray, List.getElem_cons_succ, List.getElem_cons_zero, Act.put, List.setIfInBounds_toArray, List.set_cons_zero, List.set_cons_succ]
          refine hd_take 2 (_) rfl rfl (by kernel_rfl) (by kernel_rfl) (by kernel_rfl) (fun _ _ _ h => h) (fun w hw => by go_simp <;> rfl) hS ?_
          simp only [List.getElem_toArray, List.getElem_cons_succ, List.getElem_cons_zero, Act.put, List.setIfInBounds_toArray, List.set_cons_zero, List.set_cons_succ]
          refine hg_take 3 (_) rfl (by rfl) (by kernel_rfl) (by kernel_rfl) (by kernel_rfl) (fun _ _ _ h => h) (fun w hw => by go_simp <;> rfl) hS ?_
          simp only [List.getElem_toArray, List.getElem_cons_succ, List.getElem_cons_zero, Act.put, List.setIfInBounds_toArray, List.set_cons_zero, List.set_cons_succ]
          refine hg_take 4 (_) rfl (by rfl) (by kernel_rfl) (by kernel_rfl) (by kernel_rfl) (fun _ _ _ h => h) (fun w hw => by go_simp <;> rfl) hS ?_
          simp only [List.getElem_toArray, List.getElem_cons_succ, List.getElem_cons_zero, Act.put, List.setIfInBounds_toArray, List.set_cons_zero, List.set_cons_succ]
          refine hd_take 5 (_) rfl rfl (by kernel_rfl) (by kernel_rfl) (by kernel_rfl) (fun _ _ _ h => h) (fun w hw => by go_simp <;> rfl) hS ?_
          simp only [List.getElem_toArray, List.getElem_cons_succ, List.getElem_cons_zero, Act.put, List.setIfInBounds_toArray, List.set_cons_zero, List.set_cons_succ]
          refine hd_take 6 (_) rfl rfl (by kernel_rfl) (by kernel_rfl) (by kernel_rfl) (fun _ _ _ h => h) (fun w hw => by go_simp <;> rfl) hS ?_
          simp only [List.getElem_toArray, List.getElem_cons_succ, List.getElem_cons_zero, Act.put, List.setIfInBounds_toArray, List.set_cons_zero, List.set_cons_succ]
          refine hg_load 7 (w1.heap.size) 0 (cellsB g1) _ _ rfl rfl (by rfl) (by kernel_rfl) (by kernel_rfl) (by kernel_rfl) (fun _ _ _ h => h) rfl (fun w hw => hw.1) under_key rfl (key_info HD1.out) hS ?_
          simp only [List.getElem_toArray, List.getElem_cons_succ, List.getElem_cons_zero, Act.put, List.setIfInBounds_toArray, List.set_cons_zero, List.set_cons_succ]
          refine hg_load 8 (w3.heap.size) 0 (cellsB g2) _ _ rfl rfl (by rfl) (by kernel_rfl) (by kernel_rfl) (by kernel_rfl) (fun _ _ _ h => h) rfl (fun w hw => hw.2.1) under_key rfl (key_info HD2.out) hS ?_
          simp only [List.getElem_toArray, List.getElem_cons_succ, List.getElem_cons_zero, Act.put, List.setIfInBounds_toArray, List.set_cons_zero, List.set_cons_succ]
          by_cases hdd : g1 = g2
          · have e1 : (g1 == g2) = true := by simpa using hdd
            refine hg_take 9 (.bool true) rfl (by rfl) (by kernel_rfl) (by kernel_rfl) (by kernel_rfl) (fun _ _ _ h => h) (fun w hw => by have hx := equalIn_keys w g1 g2 HD1 HD2; simp [go_sem, hx, e1]) hS ?_
            simp only [List.getElem_toArray, List.getElem_cons_succ, List.getElem_cons_zero, Act.put, List.setIfInBounds_toArray, List.set_cons_zero, List.set_cons_succ]
            refine hd_take 10 (_) rfl rfl (by kernel_rfl) (by kernel_rfl) (by kernel_rfl) (fun _ _ _ h => h) (fun w hw => by go_simp <;> rfl) hS ?_
            simp only [List.getElem_toArray, List.getElem_cons_succ, List.getElem_cons_zero, Act.put, List.setIfInBounds_toArray, List.set_cons_zero, List.set_cons_succ]
            refine hd_take 11 (_) rfl rfl (by kernel_rfl) (by kernel_rfl) (by kernel_rfl) (fun _ _ _ h => h) (fun w hw => by go_simp <;> rfl) hS ?_
            simp only [List.getElem_toArray, List.getElem_cons_succ, List.getElem_cons_zero, Act.put, List.setIfInBounds_toArray, List.set_cons_zero, List.set_cons_succ]
            refine hg_take 12 (_) rfl (by rfl) (by kernel_rfl) (by kernel_rfl) (by kernel_rfl) (fun _ _ _ h => h) (fun w hw => by go_simp <;> rfl) hS ?_
            simp only [List.getElem_toArray, List.getElem_cons_succ, List.getElem_cons_zero, Act.put, List.setIfInBounds_toArray, List.set_cons_zero, List.set_cons_succ]
            refine hg_take 13 (_) rfl (by rfl) (by kernel_rfl) (by kernel_rfl) (by kernel_rfl) (fun _ _ _ h => h) (fun w hw => by go_simp <;> rfl) hS ?_
            simp only [List.getElem_toArray, List.getElem_cons_succ, List.getElem_cons_zero, Act.put, List.setIfInBounds_toArray, List.set_cons_zero, List.set_cons_succ]
            refine hg_take 17 (_) rfl (by rfl) (by kernel_rfl) (by kernel_rfl) (by kernel_rfl) (fun _ _ _ h => h) (fun w hw => by go_simp <;> rfl) hS ?_
            simp only [List.getElem_toArray, List.getElem_cons_succ, List.getElem_cons_zero, Act.put, List.setIfInBounds_toArray, List.set_cons_zero, List.set_cons_succ]
            refine hg_take 18 (_) rfl (by rfl) (by kernel_rfl) (by kernel_rfl) (by kernel_rfl) (fun _ _ _ h => h) (fun w hw => by go_simp <;> rfl) hS ?_
            simp only [List.getElem_toArray, List.getElem_cons_succ, List.getElem_cons_zero, Act.put, List.setIfInBounds_toArray, List.set_cons_zero, List.set_cons_succ]
            refine hg_take 14 (_) rfl (by rfl) (by kernel_rfl) (by kernel_rfl) (by kernel_rfl) (fun _ _ _ h => h) (fun w hw => by go_simp <;> rfl) hS ?_
            simp only [List.getElem_toArray, List.getElem_cons_succ, List.getElem_cons_zero, Act.put, List.setIfInBounds_toArray, List.set_cons_zero, List.set_cons_succ]
            refine hg_take 19 (_) rfl (by rfl) (by kernel_rfl) (by kernel_rfl) (by kernel_rfl) (fun _ _ _ h => h) (fun w hw => by go_simp <;> rfl) hS ?_
            simp only [List.getElem_toArray, List.getElem_cons_succ, List.getElem_cons_zero, Act.put, List.setIfInBounds_toArray, List.set_cons_zero, List.set_cons_succ]
            refine hg_take 15 (.slice A1 q1 d1) rfl (by rfl) (by kernel_rfl) (by kernel_rfl) (by kernel_rfl) (fun _ _ _ h => h) (fun w hw => by have hx := hw.2.2.1; simp [go_sem, hx]) hS ?_
            simp only [List.getElem_toArray, List.getElem_cons_succ, List.getElem_cons_zero, Act.put, List.setIfInBounds_toArray, List.set_cons_zero, List.set_cons_succ]
            refine hg_take 20 (.slice A2 q2 d2) rfl (by rfl) (by kernel_rfl) (by kernel_rfl) (by kernel_rfl) (fun _ _ _ h => h) (fun w hw => by have hx := hw.2.2.2.1; simp [go_sem, hx]) hS ?_
            simp only [List.getElem_toArray, List.getElem_cons_succ, List.getElem_cons_zero, Act.put, List.setIfInBounds_toArray, List.set_cons_zero, List.set_cons_succ]
            refine hg_take 16 (.string (strB l1)) rfl (by rfl) (by kernel_rfl) (by kernel_rfl) (by kernel_rfl) (fun _ _ _ h => h) (fun w hw => by have hx := run_string_br hw.2.2.2.2.1 q1 HQ1.out; simp [execOp, Act.eval, Act.put, Sem.run_bind, hx]) hS ?_
            simp only [List.getElem_toArray, List.getElem_cons_succ, List.getElem_cons_zero, Act.put, List.setIfInBounds_toArray, List.set_cons_zero, List.set_cons_succ]
            refine hg_take 21 (.string (strB l2)) rfl (by rfl) (by kernel_rfl) (by kernel_rfl) (by kernel_rfl) (fun _ _ _ h => h) (fun w hw => by have hx := run_string_br hw.2.2.2.2.2 q2 HQ2'.out; simp [execOp, Act.eval, Act.put, Sem.run_bind, hx]) hS ?_
            simp only [List.getElem_toArray, List.getElem_cons_succ, List.getElem_cons_zero, Act.put, List.setIfInBounds_toArray, List.set_cons_zero, List.set_cons_succ]
            by_cases htt : l1 = l2
            · have e2 : strB l1 = strB l2 := by rw [htt]
              refine hg_take 22 (.bool false) rfl (by rfl) (by kernel_rfl) (by kernel_rfl) (by kernel_rfl) (fun _ _ _ h => h) (fun w hw => by simp [go_sem, e2]) hS ?_
              simp only [List.getElem_toArray, List.getElem_cons_succ, List.getElem_cons_zero, Act.put, List.setIfInBounds_toArray, List.set_cons_zero, List.set_cons_succ]
              refine hd_take 23 (_) rfl rfl (by kernel_rfl) (by kernel_rfl) (by kernel_rfl) (fun _ _ _ h => h) (fun w hw => by go_simp <;> rfl) hS ?_
              simp only [List.getElem_toArray, List.getElem_cons_succ, List.getElem_cons_zero, Act.put, List.setIfInBounds_toArray, List.set_cons_zero, List.set_cons_succ]
              refine wpAnyH_done (by kernel_rfl) (NoPanic.normal ?_) _
              have HEQ := Lib.hid htt
              clear e1 e2 hS hdd htt HC1 HC2 HB1 HB2
              go_wp2_with fail
              go_roundw
              case rel => exact ⟨k + 1, by omega, by go_num, fun b ha hb h1 => by
                  rcases Nat.lt_or_ge b k with h | h
                  · exact HY.out b ha hb h
                  · obtain rfl : b = k := by omega
                    exact (HE.out ha hb).2 (fun _ => HEQ.out), E4.out⟩
              case measure => simp [intOf]; omega
            · have e2 : ¬ (strB l1).toList = (strB l2).toList := fun h => htt (strB_inj (toList_inj_ h))
              refine hg_take 22 (.bool true) rfl (by rfl) (by kernel_rfl) (by kernel_rfl) (by kernel_rfl) (fun _ _ _ h => h) (fun w hw => by simp [go_sem, e2]) hS ?_
              simp only [List.getElem_toArray, List.getElem_cons_succ, List.getElem_cons_zero, Act.put, List.setIfInBounds_toArray, List.set_cons_zero, List.set_cons_succ]
              refine hd_take 23 (_) rfl rfl (by kernel_rfl) (by kernel_rfl) (by kernel_rfl) (fun _ _ _ h => h) (fun w hw => by go_simp <;> rfl) hS ?_
              simp only [List.getElem_toArray, List.getElem_cons_succ, List.getElem_cons_zero, Act.put, List.setIfInBounds_toArray, List.set_cons_zero, List.set_cons_succ]
              refine wpAnyH_done (by kernel_rfl) (NoPanic.normal ?_) _
              clear e1 e2 hS hdd htt HC1 HC2 HB1 HB2
              go_wp2_with fail
              go_ret
              exact ⟨rfl, E4.out⟩
          · have e1 : (g1 == g2) = false := key_ne hdd
            refine hg_take 9 (.bool false) rfl (by rfl) (by kernel_rfl) (by kernel_rfl) (by kernel_rfl) (fun _ _ _ h => h) (fun w hw => by have hx := equalIn_keys w g1 g2 HD1 HD2; simp [go_sem, hx, e1]) hS ?_
            simp only [List.getElem_toArray, List.getElem_cons_succ, List.getElem_cons_zero, Act.put, List.setIfInBounds_toArray, List.set_cons_zero, List.set_cons_succ]
            refine hd_take 10 (_) rfl rfl (by kernel_rfl) (by kernel_rfl) (by kernel_rfl) (fun _ _ _ h => h) (fun w hw => by go_simp <;> rfl) hS ?_
            simp only [List.getElem_toArray, List.getElem_cons_succ, List.getElem_cons_zero, Act.put, List.setIfInBounds_toArray, List.set_cons_zero, List.set_cons_succ]
            refine hd_take 11 (_) rfl rfl (by kernel_rfl) (by kernel_rfl) (by kernel_rfl) (fun _ _ _ h => h) (fun w hw => by go_simp <;> rfl) hS ?_
            simp only [List.getElem_toArray, List.getElem_cons_succ, List.getElem_cons_zero, Act.put, List.setIfInBounds_toArray, List.set_cons_zero, List.set_cons_succ]
            refine hg_skip 12 rfl (by rfl) (by kernel_rfl) (by kernel_rfl) (by kernel_rfl) (fun _ _ _ h => h) hS ?_
            simp only [List.getElem_toArray, List.getElem_cons_succ, List.getElem_cons_zero, Act.put, List.setIfInBounds_toArray, List.set_cons_zero, List.set_cons_succ]
            refine hg_skip 13 rfl (by rfl) (by kernel_rfl) (by kernel_rfl) (by kernel_rfl) (fun _ _ _ h => h) hS ?_
            simp only [List.getElem_toArray, List.getElem_cons_succ, List.getElem_cons_zero, Act.put, List.setIfInBounds_toArray, List.set_cons_zero, List.set_cons_succ]
            refine hg_skip 14 rfl (by rfl) (by kernel_rfl) (by kernel_rfl) (by kernel_rfl) (fun _ _ _ h => h) hS ?_
            simp only [List.getElem_toArray, List.getElem_cons_succ, List.getElem_cons_zero, Act.put, List.setIfInBounds_toArray, List.set_cons_zero, List.set_cons_succ]
            refine hg_skip 15 rfl (by rfl) (by kernel_rfl) (by kernel_rfl) (by kernel_rfl) (fun _ _ _ h => h) hS ?_
            simp only [List.getElem_toArray, List.getElem_cons_succ, List.getElem_cons_zero, Act.put, List.setIfInBounds_toArray, List.set_cons_zero, List.set_cons_succ]
            refine hg_skip 16 rfl (by rfl) (by kernel_rfl) (by kernel_rfl) (by kernel_rfl) (fun _ _ _ h => h) hS ?_
            simp only [List.getElem_toArray, List.getElem_cons_succ, List.getElem_cons_zero, Act.put, List.setIfInBounds_toArray, List.set_cons_zero, List.set_cons_succ]
            refine hg_skip 17 rfl (by rfl) (by kernel_rfl) (by kernel_rfl) (by kernel_rfl) (fun _ _ _ h => h) hS ?_
            simp only [List.getElem_toArray, List.getElem_cons_succ, List.getElem_cons_zero, Act.put, List.setIfInBounds_toArray, List.set_cons_zero, List.set_cons_succ]
            refine hg_skip 18 rfl (by rfl) (by kernel_rfl) (by kernel_rfl) (by kernel_rfl) (fun _ _ _ h => h) hS ?_
            simp only [List.getElem_toArray, List.getElem_cons_succ, List.getElem_cons_zero, Act.put, List.setIfInBounds_toArray, List.set_cons_zero, List.set_cons_succ]
            refine hg_skip 19 rfl (by rfl) (by kernel_rfl) (by kernel_rfl) (by kernel_rfl) (fun _ _ _ h => h) hS ?_
            simp only [List.getElem_toArray, List.getElem_cons_succ, List.getElem_cons_zero, Act.put, List.setIfInBounds_toArray, List.set_cons_zero, List.set_cons_succ]
            refine hg_skip 20 rfl (by rfl) (by kernel_rfl) (by kernel_rfl) (by kernel_rfl) (fun _ _ _ h => h) hS ?_
            simp only [List.getElem_toArray, List.getElem_cons_succ, List.getElem_cons_zero, Act.put, List.setIfInBounds_toArray, List.set_cons_zero, List.set_cons_succ]
            refine hg_skip 21 rfl (by rfl) (by kernel_rfl) (by kernel_rfl) (by kernel_rfl) (fun _ _ _ h => h) hS ?_
            simp only [List.getElem_toArray, List.getElem_cons_succ, List.getElem_cons_zero, Act.put, List.setIfInBounds_toArray, List.set_cons_zero, List.set_cons_succ]
            refine hg_skip 22 rfl (by rfl) (by kernel_rfl) (by kernel_rfl) (by kernel_rfl) (fun _ _ _ h => h) hS ?_
            simp only [List.getElem_toArray, List.getElem_cons_succ, List.getElem_cons_zero, Act.put, List.setIfInBounds_toArray, List.set_cons_zero, List.set_cons_succ]
            refine hd_take 23 (_) rfl rfl (by kernel_rfl) (by kernel_rfl) (by kernel_rfl) (fun _ _ _ h => h) (fun w hw => by go_simp <;> rfl) hS ?_
            simp only [List.getElem_toArray, List.getElem_cons_succ, List.getElem_cons_zero, Act.put, List.setIfInBounds_toArray, List.set_cons_zero, List.set_cons_succ]
            refine wpAnyH_done (by kernel_rfl) (NoPanic.normal ?_) _
            have HNE := Lib.hid hdd
            clear e1 hS hdd HC1 HC2 HB1 HB2
            go_wp2_with fail
            go_roundw
            case rel => exact ⟨k + 1, by omega, by go_num, fun b ha hb h1 => by
                rcases Nat.lt_or_ge b k with h | h
                · exact HY.out b ha hb h
                · obtain rfl : b = k := by omega
                  exact (HE.out ha hb).2 (fun h => absurd h HNE.out), E4.out⟩
            case measure => simp [intOf]; omega
        · obtain rfl : k = u := by omega
          have hki : (k : Int) ≤ k := Int.le_refl _
          go_wp2_with fail
          go_roundw
          case rel => exact ⟨k + 1, by omega, by go_num, fun a b ha hb h1 h2 => by
              rcases Nat.lt_or_ge a k with h | h
              · exact HX.out a b ha hb h1 h
              · obtain rfl : a = k := by omega
                exact HY.out b ha hb h1, hbel2⟩
          case measure => simp [intOf]; omega
    · exfalso
      obtain rfl : u = q := by omega
      obtain ⟨s, hs, t, ht, hne, hd⟩ := HCL.out
      obtain ⟨a, ha, rfl⟩ := List.getElem_of_mem hs
      obtain ⟨b, hb, rfl⟩ := List.getElem_of_mem ht
      rw [List.getElem_map, List.getElem_map] at hne hd
      rw [List.length_map] at ha hb
      have hq := HQ2.out
      rcases Nat.lt_trichotomy a b with h | h | h
      · exact hne ((HX.out b a hb ha h (by omega) hd.symm).symm)
      · subst h; exact hne rfl
      · exact hne (HX.out a b ha hb h (by omega) hd)
end Go.Proofs.YtchnaimpmegbkaaGreatDoor

/- Regions that draw their order: bytes appended, two stores in either order. -/
namespace Go.Proofs.YtchnaimpmegbkaaGreatDoor
open Go.RowKit
set_option linter.unusedVariables false
set_option linter.unusedSimpArgs false

section
variable {P : Program} {md : Region.Mode} {ops : Array Oper} {Q : Exit → Act → World → Prop} {S : World → Prop} {fuel : Nat} {listed : Array Bool} {a : Act} {w : World}
/-- append to bytes that the call owns, the only operation that may come up. -/
theorem hd_appB (i : Nat) {oi : Oper} (s x : Operand) (hi : ops[i]? = some oi) (ho : oi.op = .call { callee := .builtin .append, args := #[s, x], argTypes := #[31, 31] }) (hg : oi.guard = none) (hr : Region.ready md ops listed = [i])
    (B : Nat) (A : Option Addr) (n c : Nat) (l : List UInt8) (hn : l.length = n) (hs : a.eval s = .slice A n c) (hown : OB B w A c l)
    (X : Option Addr) (m d : Nat) (news : List UInt8) (hm : news.length = m) (hx : a.eval x = .slice X m d) (hsrc : Src w 1 X m (cellsB news)) (hlen : n + m ≤ 140737488351232) (hB : B ≤ w.heap.size)
    (h : ∀ A' c' w', OB B w' A' c' (l ++ news) → Below B w w' → S w' ∧ wpAnyH Tryz.prog md ops Q S fuel (listed.setIfInBounds i true) (a.put oi.dst (.slice A' (n + m) c')) w') : wpAnyH Tryz.prog md ops Q S (fuel + 1) listed a w := by
  obtain ⟨i0, hi0, hz0, hz1, hz2⟩ := info_parts u8_info'
  subst hn hm
  obtain ⟨A', c', w', hrun, h2, h3, h4⟩ := run_append_src (P := Tryz.prog) w B 31 oi.type 5 i0 (.int .u8 0) 1 1 Tryz.underlying31 hi0 hz0 hz1 hz2 rfl (by omega) A l.length c (cellsB l) hown X news.length d (cellsB news) hsrc (cellsB_one _) (by simp only [maxLen]; omega) (by omega) hB
  refine hd_one i hi hg hr ?_
  refine Lib.wp_append_run w s x 31 31 ho _ _ hs hx _ w' hrun ?_
  refine h A' c' w' ?_ (grown_below (Below.refl _ _) hown h3 hB (Nat.le_refl _))
  unfold OB
  rw [cellsB_append, List.length_append]
  exact h2
end
theorem run_op_mid {P : Program} {op : Oper} {a : Act} {w : World} (ty : TypeId) (x y : Operand) (ho : op.op = .store ty x y)
    (b o : Nat) (cells : Array Value) (hx : a.eval x = .pointer (some ⟨b, o, none⟩)) (hy : a.eval y = .agg cells)
    (ht : w.there b o cells.size) (hi : (P.info? ty).map (·.size) = some cells.size) (h1 : cells.all (·.oneCell') = true) : (execOp a.eval op).run P w = .ok .skip (w.setCells b o cells.toList) := by
  unfold execOp
  simp only [ho, hx, hy, Instr.storeAt, Instr.sureAddr, Sem.run_bind, Sem.run_pure, Result.andThen_ok, run_storeVar_mid w b o ty cells ht hi h1]
theorem range_src {w : World} {b o : Nat} {l : List UInt8} (h : w.rangeAt b o (cellsB l)) {n : Nat} (hn : l.length = n) : Src w 1 (some ⟨b, o, none⟩) n (cellsB l) := by
  subst hn
  refine ⟨by simp [cellsB], .inr ⟨_, rfl, fun j u hu => ?_⟩⟩
  rw [Addr.add_lit]
  exact h j u hu
theorem open_clash {half hv V kn kc : List UInt8} (hV : V.length = 16) (hk : kn.length = 16) (h1 : digS (openT half V) = kc) (h2 : kc = digS (openT hv kn)) (hne : ¬ (half = hv ∧ V = kn)) : Clash [openT half V, openT hv kn] :=
  ⟨openT half V, List.mem_cons_self, openT hv kn, List.mem_cons_of_mem _ List.mem_cons_self, fun h => hne (openT_inj hV hk h), h1.trans h2⟩
theorem str_ne {a b : List UInt8} (h : ¬ a = b) : ¬ strB a = strB b ∧ ¬ (strB a).toList = (strB b).toList := ⟨fun g => h (strB_inj g), fun g => h (strB_inj (toList_inj_ g))⟩
theorem cell_up {w W : World} (hb : Below w.heap.size w W) {p : Addr} {v : Value} (h : w.cell? p = some v) : W.cell? p = some v := (hb.cell (World.block_lt_of_cell? _ _ h)).trans h
theorem range_up {w W : World} (hb : Below w.heap.size w W) {b o : Nat} {cs : List Value} (h : w.rangeAt b o cs) : W.rangeAt b o cs := fun j v hv => cell_up hb (h j v hv)
theorem clash2_any (A1 : Option Addr) (c1 : Nat) (l1 : List UInt8) (A2 : Option Addr) (c2 : Nat) (l2 : List UInt8) (W : World) {n1 n2 : Nat} (hn1 : l1.length = n1) (hn2 : l2.length = n2) (h1 : BR W A1 c1 l1) (h2 : BR W A2 c2 l2) (t1 : n1 ≤ 16384) (t2 : n2 ≤ 16384) (hC : Clash [l1, l2]) :
    Calls Tryz.prog 14 #[.slice (some ⟨W.heap.size, 0, none⟩) 2 2] (W.alloc (.cells #[.slice A1 n1 c1, .slice A2 n2 c2] 31)) fun e w' => e = .returned (.bool true) ∧ Below W.heap.size W w' := by
  subst hn1 hn2
  obtain ⟨V, hV⟩ : ∃ V, V = W.alloc (.cells #[.slice A1 l1.length c1, .slice A2 l2.length c2] 31) := ⟨_, rfl⟩
  have b1 : Below W.heap.size W V := by rw [hV]; exact alloc_bel W _
  have hro : RO W.heap.size V (some ⟨W.heap.size, 0, none⟩) 2 [⟨A1, c1, l1⟩, ⟨A2, c2, l2⟩] := by
    rw [hV]
    exact World.ownsRow_lit (e := 31) (size := 1) W #[.slice A1 l1.length c1, .slice A2 l2.length c2] 2 (Nat.le_refl _) (by simp [maxLen]) (by simp)
  have hrr : RR V (some ⟨W.heap.size, 0, none⟩) 2 [⟨A1, c1, l1⟩, ⟨A2, c2, l2⟩] := hro.rr (by simp) fun r hr => by
    simp only [List.mem_cons, List.not_mem_nil, or_false] at hr
    rcases hr with rfl | rfl
    · exact h1.below b1
    · exact h2.below b1
  rw [← hV]
  exact (clashing_any (some ⟨W.heap.size, 0, none⟩) 2 [⟨A1, c1, l1⟩, ⟨A2, c2, l2⟩] V rfl hrr (by simp) (fun r hr => by
    simp only [List.mem_cons, List.not_mem_nil, or_false] at hr
    rcases hr with rfl | rfl <;> assumption) hC).mono fun e w' ⟨he, hb⟩ => ⟨he, bel_on b1 hb⟩
end Go.Proofs.YtchnaimpmegbkaaGreatDoor

/- Whether there is a half of one length for each user: the top's check. -/
namespace Go.Proofs.YtchnaimpmegbkaaGreatDoor
open Go.RowKit
set_option linter.unusedVariables false
set_option linter.unusedSimpArgs false

/-- A half of one length for each user of a valid code of steps. -/
def sizedB (s : StV) (hs : List (List UInt8)) : Bool := s.ok && (decide ((hs.length : Int) = s.u) && (decide (1 ≤ (hd hs).length) && (decide ((hd hs).length ≤ 64) && hs.all fun h => wordB h (hd hs).length)))
theorem sizedB_iff {s : StV} {hs : List (List UInt8)} : sizedB s hs = true ↔ s.ok = true ∧ (hs.length : Int) = s.u ∧ 1 ≤ (hd hs).length ∧ (hd hs).length ≤ 64 ∧ ∀ h ∈ hs, wordB h (hd hs).length = true := by
  simp [sizedB, List.all_eq_true]
theorem sizedB_no {s : StV} {hs : List (List UInt8)} (h : ¬ (s.ok = true ∧ (hs.length : Int) = s.u ∧ 1 ≤ (hd hs).length ∧ (hd hs).length ≤ 64 ∧ ∀ h ∈ hs, wordB h (hd hs).length = true)) : sizedB s hs = false := by
  cases e : sizedB s hs
  · rfl
  · exact absurd (sizedB_iff.1 e) h
set_option maxHeartbeats 4000000 in
set_option maxRecDepth 100000 in
theorem sized_any (s : StV) (A : Option Addr) (c : Nat) (rs : List BRow) (w0 : World) {n : Nat} (hn : rs.length = n) (h0 : StOK w0 s) (hR0 : RR w0 A c rs) :
    Calls Tryz.prog 6 #[.agg s.cs.toArray, .slice A n c] w0 fun e w' => e = .returned (.bool (sizedB s (rs.map BRow.l))) ∧ Below w0.heap.size w0 w' := by
  have hk := h0.k16
  obtain ⟨w, hW0⟩ : ∃ W : World, W = w0.alloc (.cells s.cs.toArray 29) := ⟨_, rfl⟩
  have b0 : Hid (Below w0.heap.size w0 w) := by unfold Hid; rw [hW0]; exact alloc_bel _ _
  have HX : Hid (∀ W, Below w.heap.size w W → Blk W w0.heap.size 29 s.cs.toArray) := fun W hW => Blk.below' (by rw [hW0]; exact Blk.new w0 _ _) hW
  have h := h0.below b0.out
  have HW0 := Lib.hid hW0
  have HIN := Lib.hid (StV.info (s := s) hk)
  have K0 : Hid (Below w.heap.size w w) := Below.refl _ _
  have hR := hR0.below b0.out
  have HVS : Hid (∀ W, Below w.heap.size w W → Calls Tryz.prog 24 #[.agg s.cs.toArray] W fun e w' => e = .returned (.bool s.ok) ∧ Below W.heap.size W w') := fun W hW => refValidSteps_any s W (h.below hW)
  cases hok : s.ok
  · have HS : Hid (sizedB s (rs.map BRow.l) = false) := sizedB_no fun g => by rw [hok] at g; cases g.1
    rw [hok] at HVS
    generalize s.cs.toArray = cs at *
    clear hok hW0 h h0 hk hR hR0
    go_enter Tryz.func6, Tryz.ntmps6
    go_wp2_with (first | (rw [← HW0.out]) | (refine wpList_load_row rfl 29 (.tmp 2) rfl w0.heap.size rfl 29 cs (0, 0) _ (HX.out _ K0.out) Tryz.underlying29 rfl HIN.out ?_))
    refine (HVS.out _ K0.out).mono ?_
    rintro e w1 ⟨rfl, hb1⟩
    have K1 : Hid (Below w.heap.size w w1) := bel_on K0.out hb1
    clear hb1
    go_wp2_with fail
    go_ret
    exact ⟨by rw [HS.out]; rfl, bel_on b0.out K1.out⟩
  rw [hok] at HVS
  have HC0 : Hid (∀ W, Below w.heap.size w W → W.cell? ⟨w0.heap.size, 0, none⟩ = some (.int .i64 s.u)) := fun W hW => (StV.cells hk (HX.out W hW)).1
  obtain ⟨⟨q1, q2, q3, q4⟩, -⟩ := StV.parts hok
  have hnl : (n : Int) ≤ 140737488351232 := by have := hR.1.len; omega
  by_cases hu : s.u = (n : Int)
  · rw [hu] at HC0
    have hnn : ¬ ((n : Int) ≠ (n : Int)) := by simp
    have hni : (n : Int) ≤ 16 := by omega
    have hnp : (0 : Int) < n := by omega
    obtain ⟨b, off, r0, rfl, hb, hr0, hc0, hR0'⟩ := hR.at_ (i := 0) (by omega)
    rw [Nat.add_zero] at hc0
    have e0 : Hid (hd (rs.map BRow.l) = r0.l) := row_l hr0
    have hl0 : (r0.l.length : Int) ≤ 140737488351232 := by have := hR0'.len; omega
    have HC1 : Hid (∀ W, Below w.heap.size w W → W.cell? ⟨b, off, none⟩ = some (.slice r0.A r0.l.length r0.c)) := fun W hW => (hW.cell (p := ⟨b, off, none⟩) hb).trans hc0
    obtain ⟨l0, hl⟩ : ∃ l0, r0.l.length = l0 := ⟨_, rfl⟩
    have HL := Lib.hid hl
    rw [hl] at HC1 hl0
    have HN := Lib.hid hn
    have HR := Lib.hid hR
    have HK := Lib.hid hok
    have HU := Lib.hid hu
    generalize s.cs.toArray = cs at *
    clear hok hW0 h h0 hk hR hR0 hR0' hb hc0 hr0 hl hu q1 q2 q3 q4 hn
    by_cases hl1 : l0 < 1
    · have HS : Hid (sizedB s (rs.map BRow.l) = false) := sizedB_no fun g => by
        have := g.2.2.1
        rw [e0.out, HL.out] at this
        omega
      have t1 : decide ((l0 : Int) < 1) = true := by simp; omega
      have t1' : decide (l0 < 1) = true := by simp; omega
      go_enter Tryz.func6, Tryz.ntmps6
      go_wp2_with (first | (rw [← HW0.out]) | (refine wpList_load_row rfl 29 (.tmp 2) rfl w0.heap.size rfl 29 cs (0, 0) _ (HX.out _ K0.out) Tryz.underlying29 rfl HIN.out ?_))
      refine (HVS.out _ K0.out).mono ?_
      rintro e w1 ⟨rfl, hb1⟩
      have K1 : Hid (Below w.heap.size w w1) := bel_on K0.out hb1
      have c0 := HC0.out _ K1.out
      have c1 := HC1.out _ K1.out
      clear hb1
      go_wp2_with fail
      go_ret
      exact ⟨by rw [HS.out]; rfl, bel_on b0.out K1.out⟩
    have t1 : decide ((l0 : Int) < 1) = false := by simp; omega
    have t1' : decide (l0 < 1) = false := by simp; omega
    by_cases hl2 : 64 < l0
    · have HS : Hid (sizedB s (rs.map BRow.l) = false) := sizedB_no fun g => by
        have := g.2.2.2.1
        rw [e0.out, HL.out] at this
        omega
      have t2 : decide ((64 : Int) < l0) = true := by simp; omega
      have t2' : decide (64 < l0) = true := by simp; omega
      go_enter Tryz.func6, Tryz.ntmps6
      go_wp2_with (first | (rw [← HW0.out]) | (refine wpList_load_row rfl 29 (.tmp 2) rfl w0.heap.size rfl 29 cs (0, 0) _ (HX.out _ K0.out) Tryz.underlying29 rfl HIN.out ?_))
      refine (HVS.out _ K0.out).mono ?_
      rintro e w1 ⟨rfl, hb1⟩
      have K1 : Hid (Below w.heap.size w w1) := bel_on K0.out hb1
      have c0 := HC0.out _ K1.out
      have c1 := HC1.out _ K1.out
      clear hb1
      go_wp2_with fail
      go_ret
      exact ⟨by rw [HS.out]; rfl, bel_on b0.out K1.out⟩
    have t2 : decide ((64 : Int) < l0) = false := by simp; omega
    have t2' : decide (64 < l0) = false := by simp; omega
    have HG : Hid (1 ≤ l0 ∧ l0 ≤ 64) := ⟨by omega, by omega⟩
    clear hl1 hl2
    go_enter Tryz.func6, Tryz.ntmps6
    go_wp2_with (first | (rw [← HW0.out]) | (refine wpList_load_row rfl 29 (.tmp 2) rfl w0.heap.size rfl 29 cs (0, 0) _ (HX.out _ K0.out) Tryz.underlying29 rfl HIN.out ?_))
    refine (HVS.out _ K0.out).mono ?_
    rintro e w1 ⟨rfl, hb1⟩
    have K1 : Hid (Below w.heap.size w w1) := bel_on K0.out hb1
    have c0 := HC0.out _ K1.out
    have c1 := HC1.out _ K1.out
    clear hb1
    go_wp2_with fail
    go_loopw [5] (fun vk wr => ∃ k : Nat, k ≤ n ∧ vk = .int .i64 k ∧ Hid (∀ j, j < k → wordB ((rs.map BRow.l).getD j []) l0 = true) ∧ Below w.heap.size w wr) (fun vk _ => n - (intOf vk).toNat)
    case atStart => exact ⟨0, by omega, rfl, fun j hj => absurd hj (by omega), K1.out⟩
    case round =>
      obtain ⟨k, hk, rfl, HK2, hbel⟩ := hrel
      have c1 := HC1.out _ hbel
      by_cases hkn : k < n
      · obtain ⟨b', off', r, e', hb', hr, hcr, hRr⟩ := (HR.out.below hbel).at_ (i := k) (by have := HN.out; omega)
        injection e' with e'
        injection e' with e1 e2
        subst e1 e2
        have hrl : (rs.map BRow.l).getD k [] = r.l := row_l hr
        have hrm : r.l ∈ rs.map BRow.l := List.mem_map.2 ⟨r, List.mem_of_getElem? hr, rfl⟩
        have hrlen : (r.l.length : Int) ≤ 140737488351232 := by have := hRr.len; omega
        have hki : (k : Int) < n := by omega
        have hk0 : (0 : Int) ≤ k := by omega
        cases hw : wordB r.l l0 with
        | true =>
          have HK3 : Hid (∀ j, j < k + 1 → wordB ((rs.map BRow.l).getD j []) l0 = true) := fun j hj => by
            rcases Nat.lt_or_ge j k with h' | h'
            · exact HK2.out j h'
            · rw [show j = k from by omega, hrl]; exact hw
          have HIW : Hid (∀ nq, Calls Tryz.prog 7 #[.slice r.A r.l.length r.c, .int .i64 (l0 : Int)] (wr.drewN nq) fun e w' => e = .returned (.bool true) ∧ wr.drewN nq = w') := fun nq => by
            have h1 := refIsWord_any r.A r.c r.l l0 _ rfl (hRr.drewN nq) (by omega)
            rw [hw] at h1
            exact h1
          clear hw hrl hr hrm hRr
          go_wp2_with fail
          go_quiet ((go_at_call 7; exact quiet_left' (HIW.out _)))
          go_wp2_with fail
          go_roundw
          case rel => exact ⟨k + 1, by omega, by go_num, HK3, below_drewN hbel _⟩
          case measure => simp [intOf]; omega
        | false =>
          have HS : Hid (sizedB s (rs.map BRow.l) = false) := sizedB_no fun g => by
            have := g.2.2.2.2 _ hrm
            rw [e0.out, HL.out, hw] at this
            cases this
          have HIW : Hid (∀ nq, Calls Tryz.prog 7 #[.slice r.A r.l.length r.c, .int .i64 (l0 : Int)] (wr.drewN nq) fun e w' => e = .returned (.bool false) ∧ wr.drewN nq = w') := fun nq => by
            have h1 := refIsWord_any r.A r.c r.l l0 _ rfl (hRr.drewN nq) (by omega)
            rw [hw] at h1
            exact h1
          clear hw hrl hr hrm hRr
          go_wp2_with fail
          go_quiet ((go_at_call 7; exact quiet_left' (HIW.out _)))
          go_wp2_with fail
          go_ret
          exact ⟨by rw [HS.out]; rfl, bel_on b0.out (below_drewN hbel _)⟩
      · obtain rfl : k = n := by omega
        have hx5 : ¬ ((k : Int) < (k : Int)) := by omega
        have HS : Hid (sizedB s (rs.map BRow.l) = true) := sizedB_iff.2 ⟨HK.out, by rw [List.length_map, HN.out, HU.out], by rw [e0.out, HL.out]; exact HG.out.1, by rw [e0.out, HL.out]; exact HG.out.2, fun h hm => by
          obtain ⟨j, hj, rfl⟩ := List.getElem_of_mem hm
          have := HK2.out j (by rw [List.length_map, HN.out] at hj; exact hj)
          rw [List.getD_eq_getElem?_getD, List.getElem?_eq_getElem hj] at this
          rw [e0.out, HL.out]
          exact this⟩
        go_wp2_with fail
        go_ret
        exact ⟨by rw [HS.out]; rfl, bel_on b0.out hbel⟩
  · have HS : Hid (sizedB s (rs.map BRow.l) = false) := sizedB_no fun g => by
      have := g.2.1
      rw [List.length_map, hn] at this
      exact hu this.symm
    obtain ⟨U, hU⟩ : ∃ q, s.u = q := ⟨_, rfl⟩
    rw [hU] at HC0 hu q1 q2
    have t1 : decide ((n : Int) = U) = false := by simp; omega
    have t2 : ((n : Int) == U) = false := by simp; omega
    have t3 : ((n : Int) != U) = true := by simp; omega
    have t4 : ¬ (n : Int) = U := by omega
    generalize s.cs.toArray = cs at *
    clear hok hW0 h h0 hk hR hR0 hn hU hu
    go_enter Tryz.func6, Tryz.ntmps6
    go_wp2_with (first | (rw [← HW0.out]) | (refine wpList_load_row rfl 29 (.tmp 2) rfl w0.heap.size rfl 29 cs (0, 0) _ (HX.out _ K0.out) Tryz.underlying29 rfl HIN.out ?_))
    refine (HVS.out _ K0.out).mono ?_
    rintro e w1 ⟨rfl, hb1⟩
    have K1 : Hid (Below w.heap.size w w1) := bel_on K0.out hb1
    have c0 := HC0.out _ K1.out
    clear hb1
    go_wp2_with fail
    go_ret
    exact ⟨by rw [HS.out]; rfl, bel_on b0.out K1.out⟩
end Go.Proofs.YtchnaimpmegbkaaGreatDoor

/- The law TopStated: the walk. -/
namespace Go.Proofs.YtchnaimpmegbkaaGreatDoor
open Go.RowKit
set_option linter.unusedVariables false
set_option linter.unusedSimpArgs false
attribute [local go_sem] equalIn_keys

set_option maxHeartbeats 16000000 in
set_option maxRecDepth 100000 in
theorem stated_bad (s : StV) (A : Option Addr) (c : Nat) (rs : List BRow) (K : List UInt8) (u : Int) (O : List UInt8) (Hh : Option Addr) (ch : Nat) (half : List UInt8) (V : List UInt8) (Y : Option Addr) (d : Nat) (y : List UInt8) (need : Int) (w0 : World) {n k ny : Nat} (hn : rs.length = n) (hk : half.length = k) (hny : y.length = ny) (h0 : StOK w0 s) (hR0 : RR w0 A c rs) (hK : K.length = 16) (hu1 : -9223372036854775808 ≤ u) (hu2 : u ≤ 9223372036854775807) (hO : O.length = 16) (hh0 : BR w0 Hh ch half) (hV : V.length = 16) (hy0 : BR w0 Y d y) (hT : TestsIn w0) (hbad : ¬ (sizedB s (rs.map BRow.l) = true ∧ 0 ≤ u ∧ u < (n : Int) ∧ k = (hd (rs.map BRow.l)).length ∧ wordB half k = true ∧ copyB y k = true ∧ 1 ≤ need ∧ need ≤ (ny : Int))) :
    Calls Tryz.prog 3 #[.agg s.cs.toArray, .slice A n c, .agg (cellsB K).toArray, .int .i64 u, .agg (cellsB O).toArray, .slice Hh k ch, .agg (cellsB V).toArray, .slice Y ny d, .int .i64 need] w0 fun e w' => e = .returned (.bool true) ∧ Below w0.heap.size w0 w' := by
  have hkk := h0.k16
  obtain ⟨w, hW0⟩ : ∃ W : World, W = (((w0.alloc (.cells s.cs.toArray 29)).alloc (.cells (cellsB K).toArray 23)).alloc (.cells (cellsB O).toArray 23)).alloc (.cells (cellsB V).toArray 23) := ⟨_, rfl⟩
  have b0 : Hid (Below w0.heap.size w0 w) := by unfold Hid; rw [hW0]; exact bel_on (alloc3_bel w0 _ _ _) (alloc_bel _ _)
  have HXT : Hid (∀ W, Below w.heap.size w W → Blk W w0.heap.size 29 s.cs.toArray) := fun W hW => Blk.below' (by rw [hW0]; exact (blk_a0 w0 _ _ _ _).alloc _) hW
  have HXK : Hid (∀ W, Below w.heap.size w W → Blk W (w0.heap.size + 1) 23 (cellsB K).toArray) := fun W hW => Blk.below' (by rw [hW0]; exact (blk_a1 w0 _ _ _ _).alloc _) hW
  have HXO : Hid (∀ W, Below w.heap.size w W → Blk W (w0.heap.size + 1 + 1) 23 (cellsB O).toArray) := fun W hW => Blk.below' (by rw [hW0]; exact (blk_a2 w0 _ _ _ _).alloc _) hW
  have HXV : Hid (∀ W, Below w.heap.size w W → Blk W (w0.heap.size + 1 + 1 + 1) 23 (cellsB V).toArray) := fun W hW => Blk.below' (by rw [hW0]; have := Blk.new (((w0.alloc (.cells s.cs.toArray 29)).alloc (.cells (cellsB K).toArray 23)).alloc (.cells (cellsB O).toArray 23)) 23 (cellsB V).toArray; simpa using this) hW
  have HW0 := Lib.hid hW0
  have HIN := Lib.hid (StV.info (s := s) hkk)
  have H20 : Hid (s.cs.length = 20) := StV.len hkk
  have HAL : Hid (∀ v ∈ s.cs, v.oneCell' = true) := by
    have := StV.all s
    rw [List.all_toArray, List.all_eq_true] at this
    exact this
  have K0 : Hid (Below w.heap.size w w) := Below.refl _ _
  have HT := Lib.hid (hT.below_ b0.out)
  have HA : Hid (∀ W, Below w.heap.size w W → Calls Tryz.prog 5 #[] W fun e w' => e = .returned (.bool true) ∧ Below W.heap.size W w') := fun W hW => alive09_any W (HT.out.below_ hW)
  have HSZ : Hid (∀ W, Below w.heap.size w W → Calls Tryz.prog 6 #[.agg s.cs.toArray, .slice A n c] W fun e w' => e = .returned (.bool (sizedB s (rs.map BRow.l))) ∧ Below W.heap.size W w') := fun W hW => sized_any s A c rs W hn ((h0.below b0.out).below hW) ((hR0.below b0.out).below hW)
  have HIW : Hid (∀ W, Below w.heap.size w W → Calls Tryz.prog 7 #[.slice Hh k ch, .int .i64 (k : Int)] W fun e w' => e = .returned (.bool (wordB half k)) ∧ W = w') := fun W hW => refIsWord_any Hh ch half k W hk ((hh0.below b0.out).below hW) (by have := hh0.len; omega)
  have HIC : Hid (∀ W, Below w.heap.size w W → Calls Tryz.prog 8 #[.slice Y ny d, .int .i64 (k : Int)] W fun e w' => e = .returned (.bool (copyB y k)) ∧ W = w') := fun W hW => refIsCopy_any Y d y k W hny ((hy0.below b0.out).below hW) (by have := hh0.len; omega)
  have hkl : (k : Int) ≤ 140737488351232 := by have := hh0.len; omega
  have hnyl : (ny : Int) ≤ 140737488351232 := by have := hy0.len; omega
  have hnl : (n : Int) ≤ 140737488351232 := by have := hR0.1.len; omega
  cases hz : sizedB s (rs.map BRow.l)
  · rw [hz] at HSZ
    clear hW0 h0 hR0 hh0 hy0 hT hn hk hny hK hO hV hz hbad hkk
    go_enter Tryz.func3, Tryz.ntmps3
    go_wp2_with (first | (rw [← HW0.out]))
    refine (HA.out _ K0.out).mono ?_
    rintro e w1 ⟨rfl, hb1⟩
    have K1 : Hid (Below w.heap.size w w1) := hb1
    clear hb1
    go_wp2_with (first | (refine wpList_load_row rfl 29 (.tmp 9) rfl w0.heap.size rfl 29 s.cs.toArray (0, 0) _ (HXT.out _ K1.out) Tryz.underlying29 rfl HIN.out ?_))
    refine (HSZ.out _ K1.out).mono ?_
    rintro e w2 ⟨rfl, hb2⟩
    have K2 : Hid (Below w.heap.size w w2) := bel_on K1.out hb2
    clear hb2
  
    go_wp2_with fail
    go_ret
    exact ⟨by simp, bel_on b0.out K2.out⟩
  obtain ⟨hok, hus, hm1, hm2, hwd⟩ := sizedB_iff.1 hz
  rw [hz] at HSZ
  obtain ⟨⟨q1, q2, -, -⟩, -⟩ := StV.parts hok
  rw [List.length_map, hn] at hus
  have hni : (n : Int) ≤ 16 := by omega
  have hnp : (0 : Int) < n := by omega
  obtain ⟨b, off, r0, rfl, hb, hr0, hc0, -⟩ := (hR0.below b0.out).at_ (i := 0) (by omega)
  rw [Nat.add_zero] at hc0
  have e0 : hd (rs.map BRow.l) = r0.l := row_l hr0
  rw [e0] at hm1 hm2 hbad
  have HCL : Hid (∀ W, Below w.heap.size w W → W.cell? ⟨w0.heap.size, 0, none⟩ = some (.int .i64 (n : Int)) ∧ W.cell? ⟨b, off, none⟩ = some (.slice r0.A r0.l.length r0.c)) := fun W hW => by
    have := (StV.cells hkk (HXT.out W hW)).1
    rw [← hus] at this
    exact ⟨this, cell_up hW hc0⟩
  obtain ⟨m, hm⟩ : ∃ q, r0.l.length = q := ⟨_, rfl⟩
  obtain ⟨X0, hX0⟩ : ∃ q, r0.A = q := ⟨_, rfl⟩
  obtain ⟨x0, hx0⟩ : ∃ q, r0.c = q := ⟨_, rfl⟩
  rw [hm] at hm1 hm2 hbad
  rw [hm, hX0, hx0] at HCL
  have hmi : (m : Int) ≤ 64 := by omega
  clear hW0 h0 hR0 hh0 hy0 hT hn hk hny hK hO hV hkk hm hX0 hx0 e0 hc0 hr0 hb hus hok hwd q1 q2
  go_enter Tryz.func3, Tryz.ntmps3
  go_wp2_with (first | (rw [← HW0.out]))
  refine (HA.out _ K0.out).mono ?_
  rintro e w1 ⟨rfl, hb1⟩
  have K1 : Hid (Below w.heap.size w w1) := hb1
  clear hb1
  go_wp2_with (first | (refine wpList_load_row rfl 29 (.tmp 9) rfl w0.heap.size rfl 29 s.cs.toArray (0, 0) _ (HXT.out _ K1.out) Tryz.underlying29 rfl HIN.out ?_))
  refine (HSZ.out _ K1.out).mono ?_
  rintro e w2 ⟨rfl, hb2⟩
  have K2 : Hid (Below w.heap.size w w2) := bel_on K1.out hb2
  clear hb2

  obtain ⟨c0, c00⟩ := HCL.out _ K2.out
  by_cases g1 : u < 0
  · clear hbad hz
    go_wp2_with (first | (go_at_call 7; (with_reducible refine (HIW.out _ K2.out).mono ?_); rintro e w3 ⟨rfl, rfl⟩) | (go_at_call 8; (with_reducible refine (HIC.out _ K2.out).mono ?_); rintro e w3 ⟨rfl, rfl⟩))
    go_ret
    exact ⟨by simp, bel_on b0.out K2.out⟩
  by_cases g2 : (n : Int) ≤ u
  · clear hbad hz
    go_wp2_with (first | (go_at_call 7; (with_reducible refine (HIW.out _ K2.out).mono ?_); rintro e w3 ⟨rfl, rfl⟩) | (go_at_call 8; (with_reducible refine (HIC.out _ K2.out).mono ?_); rintro e w3 ⟨rfl, rfl⟩))
    go_ret
    exact ⟨by simp, bel_on b0.out K2.out⟩
  by_cases g3 : k = m
  rotate_left
  · have te1 : decide ((k : Int) = (m : Int)) = false := by simp; omega
    have te2 : ((k : Int) == (m : Int)) = false := by simp; omega
    have te3 : decide (k = m) = false := by simp; omega
    have te4 : (k == m) = false := by simp; omega
    clear hbad hz
    go_wp2_with (first | (go_at_call 7; (with_reducible refine (HIW.out _ K2.out).mono ?_); rintro e w3 ⟨rfl, rfl⟩) | (go_at_call 8; (with_reducible refine (HIC.out _ K2.out).mono ?_); rintro e w3 ⟨rfl, rfl⟩))
    go_ret
    exact ⟨by simp, bel_on b0.out K2.out⟩
  subst g3
  have hkk1 : ¬ ((k : Int) ≠ (k : Int)) := by simp
  cases g4 : wordB half k
  · rw [g4] at HIW
    clear hbad hz g4
    go_wp2_with (first | (go_at_call 7; (with_reducible refine (HIW.out _ K2.out).mono ?_); rintro e w3 ⟨rfl, rfl⟩) | (go_at_call 8; (with_reducible refine (HIC.out _ K2.out).mono ?_); rintro e w3 ⟨rfl, rfl⟩))
    go_ret
    exact ⟨by simp, bel_on b0.out K2.out⟩
  rw [g4] at HIW
  cases g5 : copyB y k
  · rw [g5] at HIC
    clear hbad hz g4 g5
    go_wp2_with (first | (go_at_call 7; (with_reducible refine (HIW.out _ K2.out).mono ?_); rintro e w3 ⟨rfl, rfl⟩) | (go_at_call 8; (with_reducible refine (HIC.out _ K2.out).mono ?_); rintro e w3 ⟨rfl, rfl⟩))
    go_ret
    exact ⟨by simp, bel_on b0.out K2.out⟩
  rw [g5] at HIC
  by_cases g6 : need < 1
  · clear hbad hz g4 g5
    go_wp2_with (first | (go_at_call 7; (with_reducible refine (HIW.out _ K2.out).mono ?_); rintro e w3 ⟨rfl, rfl⟩) | (go_at_call 8; (with_reducible refine (HIC.out _ K2.out).mono ?_); rintro e w3 ⟨rfl, rfl⟩))
    go_ret
    exact ⟨by simp, bel_on b0.out K2.out⟩
  by_cases g7 : (ny : Int) < need
  · clear hbad hz g4 g5
    go_wp2_with (first | (go_at_call 7; (with_reducible refine (HIW.out _ K2.out).mono ?_); rintro e w3 ⟨rfl, rfl⟩) | (go_at_call 8; (with_reducible refine (HIC.out _ K2.out).mono ?_); rintro e w3 ⟨rfl, rfl⟩))
    go_ret
    exact ⟨by simp, bel_on b0.out K2.out⟩
  exact absurd ⟨hz, by omega, by omega, rfl, g4, g5, by omega, by omega⟩ hbad
end Go.Proofs.YtchnaimpmegbkaaGreatDoor
