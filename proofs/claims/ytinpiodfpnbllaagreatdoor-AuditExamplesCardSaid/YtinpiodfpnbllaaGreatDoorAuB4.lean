/-
  Lemmas and contracts, joined.
-/
import Derived.Test.YtinpiodfpnbllaaGreatDoorRows
import Derived.ProofKit
import Derived.OpenShut
import Derived.LaidMore
import Derived.Lib.AppendZeros
import Derived.Deep.QuietTactic
import Derived.BigQuiet
import Derived.Laws.Cells
import Derived.Lib.SliceRun
import Derived.Test.YtinpiodfpnbllaaGreatDoorSortLay
import Derived.Lib.Small
import Derived.Shelf.GgSortFunc.RowK
import Derived.Lib.OwnBridge
import Derived.Test.YtinpiodfpnbllaaGreatDoorAuB3
import Derived.Test.YtinpiodfpnbllaaGreatDoorAuB2
import Derived.Test.YtinpiodfpnbllaaGreatDoorAuB1
import Derived.Test.YtinpiodfpnbllaaGreatDoorAuA1
set_option linter.unusedSimpArgs false
set_option linter.unusedVariables false
set_option linter.unnecessarySimpa false
/- Cases in memory, and the verdict on them in plain words. -/
namespace Go.Proofs.YtinpiodfpnbllaaGreatDoor
open Go.RowKit
set_option linter.unusedVariables false
set_option linter.unusedSimpArgs false

structure CV where
  root : List UInt8
  com : List UInt8
  a : Int
  b : Int
  P : List (List UInt8)
  cp : List UInt8
  need : Int
  op : Bool
  half : List UInt8
  nonce : List UInt8
def caseM (v : CV) (A : Option Addr) (m c : Nat) (Y : Option Addr) (n y : Nat) (H : Option Addr) (k h : Nat) : List Value := [.int .i64 v.a, .int .i64 v.b, .slice A m c, .slice Y n y, .int .i64 v.need, .bool v.op, .slice H k h]
/-- The cells of a case. -/
def caseC (v : CV) (A : Option Addr) (m c : Nat) (Y : Option Addr) (n y : Nat) (H : Option Addr) (k h : Nat) : List Value := cellsB v.root ++ (cellsB v.com ++ (caseM v A m c Y n y H k h ++ cellsB v.nonce))
/-- What a case holds. -/
structure CaseOK (w : World) (v : CV) (A : Option Addr) (m c : Nat) (Y : Option Addr) (n y : Nat) (H : Option Addr) (k h : Nat) : Prop where
  r16 : v.root.length = 16
  c16 : v.com.length = 16
  n16 : v.nonce.length = 16
  hm : v.P.length = m
  hn : v.cp.length = n
  hk : v.half.length = k
  P : KR w A c v.P
  cp : BR w Y y v.cp
  half : BR w H h v.half
theorem CaseOK.below {w w' : World} {v : CV} {A : Option Addr} {m c : Nat} {Y : Option Addr} {n y : Nat} {H : Option Addr} {k h : Nat} (g : CaseOK w v A m c Y n y H k h) (hb : Below w.heap.size w w') : CaseOK w' v A m c Y n y H k h :=
  ⟨g.r16, g.c16, g.n16, g.hm, g.hn, g.hk, g.P.below hb, g.cp.below hb, g.half.below hb⟩
theorem caseC_length {v : CV} {A : Option Addr} {m c : Nat} {Y : Option Addr} {n y : Nat} {H : Option Addr} {k h : Nat} (h1 : v.root.length = 16) (h2 : v.com.length = 16) (h3 : v.nonce.length = 16) : (caseC v A m c Y n y H k h).length = 55 := by
  simp [caseC, caseM, cellsB_length, h1, h2, h3]
/-- The parts of a case's box. -/
structure Box (w : World) (g : Nat) (v : CV) (A : Option Addr) (m c : Nat) (Y : Option Addr) (n y : Nat) (H : Option Addr) (k h : Nat) : Prop where
  root : w.rangeAt g 0 (cellsB v.root)
  com : w.rangeAt g 16 (cellsB v.com)
  pr : w.rangeAt g 32 [.int .i64 v.a, .int .i64 v.b, .slice A m c]
  c35 : w.cell? ⟨g, 35, none⟩ = some (.slice Y n y)
  c36 : w.cell? ⟨g, 36, none⟩ = some (.int .i64 v.need)
  c37 : w.cell? ⟨g, 37, none⟩ = some (.bool v.op)
  c38 : w.cell? ⟨g, 38, none⟩ = some (.slice H k h)
  nonce : w.rangeAt g 39 (cellsB v.nonce)
theorem box_of {w : World} {g : Nat} {t : TypeId} {v : CV} {A : Option Addr} {m c : Nat} {Y : Option Addr} {n y : Nat} {H : Option Addr} {k h : Nat} (hB : Blk w g t (caseC v A m c Y n y H k h).toArray) (h1 : v.root.length = 16) (h2 : v.com.length = 16) (h3 : v.nonce.length = 16) : Box w g v A m c Y n y H k h := by
  have d1 : (caseC v A m c Y n y H k h).drop 16 = cellsB v.com ++ (caseM v A m c Y n y H k h ++ cellsB v.nonce) := List.drop_left' (by rw [cellsB_length, h1])
  have d2 : (caseC v A m c Y n y H k h).drop 32 = caseM v A m c Y n y H k h ++ cellsB v.nonce := by
    rw [show 32 = 16 + 16 from rfl, ← List.drop_drop, d1]
    exact List.drop_left' (by rw [cellsB_length, h2])
  have d3 : (caseC v A m c Y n y H k h).drop 39 = cellsB v.nonce := by
    rw [show 39 = 32 + 7 from rfl, ← List.drop_drop, d2]
    exact List.drop_left' rfl
  have mid : w.rangeAt g 32 (caseM v A m c Y n y H k h) := rangeOf hB 32 _ (by rw [d2]; exact List.take_left)
  refine ⟨rangeOf hB 0 _ ?_, rangeOf hB 16 _ ?_, rangeOf hB 32 _ ?_, mid 3 _ rfl, mid 4 _ rfl, mid 5 _ rfl, mid 6 _ rfl, rangeOf hB 39 _ ?_⟩
  · rw [List.drop_zero]; exact List.take_left
  · rw [d1]; exact List.take_left
  · rw [d2]; rfl
  · rw [d3]; exact List.take_length
theorem case_info {v : CV} {A : Option Addr} {m c : Nat} {Y : Option Addr} {n y : Nat} {H : Option Addr} {k h : Nat} (h1 : v.root.length = 16) (h2 : v.com.length = 16) (h3 : v.nonce.length = 16) : (Tryz.prog.info? 29).map (·.size) = some (caseC v A m c Y n y H k h).toArray.size := by
  rw [List.size_toArray, caseC_length h1 h2 h3]; kernel_rfl
/-- In how many places two lists of symbols agree. -/
def agreeN (x y : List UInt8) (i : Nat) : Nat := sumA x y i
where sumA (x y : List UInt8) : Nat → Nat
  | 0 => 0
  | i + 1 => sumA x y i + if bt x i = bt y i then 1 else 0
theorem agreeN_yes {x y : List UInt8} {i : Nat} (h : bt x i = bt y i) : agreeN x y (i + 1) = agreeN x y i + 1 := by
  show agreeN.sumA x y i + (if bt x i = bt y i then 1 else 0) = _
  rw [if_pos h]; rfl
theorem agreeN_no {x y : List UInt8} {i : Nat} (h : ¬ bt x i = bt y i) : agreeN x y (i + 1) = agreeN x y i := by
  show agreeN.sumA x y i + (if bt x i = bt y i then 1 else 0) = _
  rw [if_neg h]; rfl
theorem agreeN_le (x y : List UInt8) (i : Nat) : agreeN x y i ≤ i := by
  induction i with
  | zero => exact Nat.le_refl _
  | succ i ih =>
    by_cases h : bt x i = bt y i
    · rw [agreeN_yes h]; omega
    · rw [agreeN_no h]; omega
theorem agreeN_sym (x y : List UInt8) (i : Nat) : agreeN x y i = agreeN y x i := by
  induction i with
  | zero => rfl
  | succ i ih =>
    by_cases h : bt x i = bt y i
    · rw [agreeN_yes h, agreeN_yes h.symm, ih]
    · rw [agreeN_no h, agreeN_no (fun e => h e.symm), ih]
def givesB (v : CV) : Bool := (climbS v.com v.a.toNat v.b.toNat v.P).1 == v.root
def opensB (v : CV) : Bool := v.op && (decide (v.half.length = v.cp.length) && (halfB v.half 1 && (digS (openT v.half v.nonce) == v.com)))
def agreesB (v : CV) : Bool := decide (v.need ≤ (agreeN v.half v.cp v.cp.length : Int))
def fitB (v : CV) : Bool := halfB v.cp 2 && (decide (1 ≤ v.need) && (decide (v.need ≤ (v.cp.length : Int)) && fitsB v.a v.b v.P.length))
/-- The verdict on a case, or the error. -/
def judgeS (v : CV) : Int × Int := if fitB v = false then (0, 8) else if givesB v = false then (1, 0) else if opensB v = false then (2, 0) else if agreesB v = true then (3, 0) else (4, 0)
end Go.Proofs.YtinpiodfpnbllaaGreatDoor

/- The tests of a case. -/
namespace Go.Proofs.YtinpiodfpnbllaaGreatDoor
open Go.RowKit
set_option linter.unusedVariables false
set_option linter.unusedSimpArgs false

set_option maxHeartbeats 4000000 in
set_option maxRecDepth 100000 in
theorem test1_any (v : CV) (A : Option Addr) (m c : Nat) (Y : Option Addr) (n y : Nat) (H : Option Addr) (k h : Nat) (w : World) (g : CaseOK w v A m c Y n y H k h) (hf : fitsB v.a v.b m = true) :
    Calls Tryz.prog 222 #[.agg (caseC v A m c Y n y H k h).toArray] w fun e w' => e = .returned (.bool (givesB v)) ∧ Below w.heap.size w w' := by
  have b0 := alloc_bel w (.cells (caseC v A m c Y n y H k h).toArray 29)
  have B0 := box_of (Blk.new w 29 (caseC v A m c Y n y H k h).toArray) g.r16 g.c16 g.n16
  have HR := Lib.hid g.r16
  have HC := Lib.hid g.c16
  obtain ⟨⟨g1, g2, g3, g4⟩, g5⟩ := fitsB_iff.1 hf
  have HG : Hid (∀ W, Below w.heap.size w W → Calls Tryz.prog 80 #[.agg (cellsB v.root).toArray, .agg (cellsB v.com).toArray, .agg #[.int .i64 v.a, .int .i64 v.b, .slice A m c]] W fun e w' => e = .returned (.bool (givesB v)) ∧ Below W.heap.size W w') := fun W hW => by
    have := gives_any v.root v.com v.a.toNat v.b.toNat v.P A c W g.hm g.r16 g.c16 (by omega) (by omega) (by omega) (by rw [g.hm]; exact g5) (g.P.below hW)
    rwa [Int.toNat_of_nonneg (by omega), Int.toNat_of_nonneg (by omega)] at this
  have HB := Lib.hid B0
  generalize caseC v A m c Y n y H k h = cs at HB b0 ⊢
  obtain ⟨W0, hW0⟩ : ∃ W, W = w.alloc (.cells cs.toArray 29) := ⟨_, rfl⟩
  rw [← hW0] at HB b0
  have HW0 := Lib.hid hW0
  generalize givesB v = q at HG ⊢
  obtain ⟨root, com, a, b, P, cp, need, op, half, nonce⟩ := v
  dsimp only at HR HC HG
  have R0 := Lib.hid HB.out.root
  have R1 := Lib.hid HB.out.com
  have R2 := Lib.hid HB.out.pr
  dsimp only at R0 R1 R2
  clear g hf g1 g2 g3 g4 g5 hW0 B0 HB
  go_enter Tryz.func222, Tryz.ntmps222
  go_wp2_with (first
    | ((first | rw [← HW0.out] | skip); refine wpList_load_mid rfl 24 (.tmp 3) rfl w.heap.size 0 rfl (cellsB root) _ R0.out under_key rfl (key_info HR.out) ?_)
    | (refine wpList_load_mid rfl 24 (.tmp 5) rfl w.heap.size 16 rfl (cellsB com) _ R1.out under_key rfl (key_info HC.out) ?_)
    | (refine wpList_load_mid rfl 27 (.tmp 7) rfl w.heap.size 32 rfl [.int .i64 a, .int .i64 b, .slice A m c] _ R2.out Tryz.underlying27 rfl (by kernel_rfl) ?_)
    | (go_at_call 80; (with_reducible refine (HG.out _ b0).mono ?_); rintro e w1 ⟨rfl, hb1⟩; have D1 := bel_on b0 hb1; clear hb1))
  go_ret
  exact ⟨rfl, D1⟩

set_option maxHeartbeats 8000000 in
set_option maxRecDepth 100000 in
theorem test2_any (v : CV) (A : Option Addr) (m c : Nat) (Y : Option Addr) (n y : Nat) (H : Option Addr) (k h : Nat) (w : World) (g : CaseOK w v A m c Y n y H k h) :
    Calls Tryz.prog 223 #[.agg (caseC v A m c Y n y H k h).toArray] w fun e w' => e = .returned (.bool (opensB v)) ∧ Below w.heap.size w w' := by
  have b0 := alloc_bel w (.cells (caseC v A m c Y n y H k h).toArray 29)
  have B0 := Blk.new w 29 (caseC v A m c Y n y H k h).toArray
  have HBX : Hid (∀ W, Below (w.alloc (.cells (caseC v A m c Y n y H k h).toArray 29)).heap.size (w.alloc (.cells (caseC v A m c Y n y H k h).toArray 29)) W → Box W w.heap.size v A m c Y n y H k h) := fun W hW => box_of (B0.below' hW) g.r16 g.c16 g.n16
  have D0 : Below (w.alloc (.cells (caseC v A m c Y n y H k h).toArray 29)).heap.size (w.alloc (.cells (caseC v A m c Y n y H k h).toArray 29)) (w.alloc (.cells (caseC v A m c Y n y H k h).toArray 29)) := Below.refl _ _
  have hkl := g.half.len
  have hnl := g.cp.len
  have HC := Lib.hid g.c16
  have HNN := Lib.hid g.n16
  have HSY : Hid (∀ W, Below w.heap.size w W → Calls Tryz.prog 61 #[.slice H k h, .int .u8 1] W fun e w' => e = .returned (.bool (halfB v.half 1)) ∧ W = w') := fun W hW => auditSyms_any H h v.half 1 W g.hk (g.half.below hW) (by omega)
  have HCO : Hid (halfB v.half 1 = true → ∀ W, Below w.heap.size w W → Calls Tryz.prog 62 #[.slice H k h, .agg (cellsB v.nonce).toArray] W fun e w' => e = .returned (.agg (cellsB (digS (openT v.half v.nonce))).toArray) ∧ Below W.heap.size W w') := fun hh W hW => commit_any v.half v.nonce H h W g.hk (by have := (halfB_iff.1 hh).1.2; rw [g.hk] at this; omega) g.n16 (g.half.below hW)
  have HDL := Lib.hid (digS_length (openT v.half v.nonce))
  have HOP : Hid (opensB v = (v.op && (decide (k = n) && (halfB v.half 1 && (digS (openT v.half v.nonce) == v.com))))) := by unfold Hid opensB; rw [g.hk, g.hn]
  generalize digS (openT v.half v.nonce) = d at HCO HDL HOP
  generalize halfB v.half 1 = s at HSY HCO HOP
  generalize opensB v = q at HOP ⊢
  have hki : (k : Int) ≤ 140737488351232 := by rw [g.hk] at hkl; omega
  have hni : (n : Int) ≤ 140737488351232 := by rw [g.hn] at hnl; omega
  generalize caseC v A m c Y n y H k h = cs at HBX b0 D0 ⊢
  obtain ⟨W0, hW0⟩ : ∃ W, W = w.alloc (.cells cs.toArray 29) := ⟨_, rfl⟩
  rw [← hW0] at HBX b0 D0
  have HW0 := Lib.hid hW0
  obtain ⟨root, com, a, b, P, cp, need, op, half, nonce⟩ := v
  dsimp only at HC HNN HSY HCO HOP
  have HS : Hid (∀ W, Below W0.heap.size W0 W → W.cell? ⟨w.heap.size, 37, none⟩ = some (.bool op) ∧ W.cell? ⟨w.heap.size, 38, none⟩ = some (.slice H k h) ∧ W.cell? ⟨w.heap.size, 35, none⟩ = some (.slice Y n y) ∧ W.rangeAt w.heap.size 39 (cellsB nonce) ∧ W.rangeAt w.heap.size 16 (cellsB com)) := fun W hW => by
    have := HBX.out W hW
    exact ⟨this.c37, this.c38, this.c35, this.nonce, this.com⟩
  clear g hkl hnl hW0 B0 HBX
  go_enter Tryz.func223, Tryz.ntmps223
  go_wp2_with fail
  rw [← HW0.out]
  refine wp_region_noPanic ?_
  refine wp_region_held_drew (S := fun w' => w'.cell? ⟨w.heap.size, 37, none⟩ = some (.bool op) ∧ w'.cell? ⟨w.heap.size, 38, none⟩ = some (.slice H k h) ∧ w'.cell? ⟨w.heap.size, 35, none⟩ = some (.slice Y n y) ∧ w'.rangeAt w.heap.size 39 (cellsB nonce) ∧ w'.rangeAt w.heap.size 16 (cellsB com)) (by kernel_rfl) (HS.out _ D0.drew) (fun hS => ?_)
  refine hd_take 0 (_) rfl rfl (by kernel_rfl) (by kernel_rfl) (by kernel_rfl) (fun _ _ _ h => h) (fun w hw => by go_simp <;> rfl) hS ?_
  simp only [List.getElem_toArray, List.getElem_cons_succ, List.getElem_cons_zero, Act.put, List.setIfInBounds_toArray, List.set_cons_zero, List.set_cons_succ]
  refine hd_take 1 (.bool op) rfl rfl (by kernel_rfl) (by kernel_rfl) (by kernel_rfl) (fun _ _ _ h => h) (fun w hw => by have hx := hw.1; simp [go_sem, hx]) hS ?_
  simp only [List.getElem_toArray, List.getElem_cons_succ, List.getElem_cons_zero, Act.put, List.setIfInBounds_toArray, List.set_cons_zero, List.set_cons_succ]
  refine hd_take 2 (_) rfl rfl (by kernel_rfl) (by kernel_rfl) (by kernel_rfl) (fun _ _ _ h => h) (fun w hw => by go_simp <;> rfl) hS ?_
  simp only [List.getElem_toArray, List.getElem_cons_succ, List.getElem_cons_zero, Act.put, List.setIfInBounds_toArray, List.set_cons_zero, List.set_cons_succ]
  cases op with
  | false =>
    refine hg_skip 3 rfl rfl (by kernel_rfl) (by kernel_rfl) (by kernel_rfl) (fun _ _ _ h => h) hS ?_
    refine hg_skip 4 rfl rfl (by kernel_rfl) (by kernel_rfl) (by kernel_rfl) (fun _ _ _ h => h) hS ?_
    refine hg_skip 5 rfl rfl (by kernel_rfl) (by kernel_rfl) (by kernel_rfl) (fun _ _ _ h => h) hS ?_
    refine hg_skip 6 rfl rfl (by kernel_rfl) (by kernel_rfl) (by kernel_rfl) (fun _ _ _ h => h) hS ?_
    refine hg_skip 7 rfl rfl (by kernel_rfl) (by kernel_rfl) (by kernel_rfl) (fun _ _ _ h => h) hS ?_
    refine hg_skip 8 rfl rfl (by kernel_rfl) (by kernel_rfl) (by kernel_rfl) (fun _ _ _ h => h) hS ?_
    refine hg_skip 9 rfl rfl (by kernel_rfl) (by kernel_rfl) (by kernel_rfl) (fun _ _ _ h => h) hS ?_
    simp only [List.getElem_toArray, List.getElem_cons_succ, List.getElem_cons_zero, Act.put, List.setIfInBounds_toArray, List.set_cons_zero, List.set_cons_succ]
    refine hd_take 10 (_) rfl rfl (by kernel_rfl) (by kernel_rfl) (by kernel_rfl) (fun _ _ _ h => h) (fun w hw => by go_simp <;> rfl) hS ?_
    simp only [List.getElem_toArray, List.getElem_cons_succ, List.getElem_cons_zero, Act.put, List.setIfInBounds_toArray, List.set_cons_zero, List.set_cons_succ]
    refine hd_take 11 (_) rfl rfl (by kernel_rfl) (by kernel_rfl) (by kernel_rfl) (fun _ _ _ h => h) (fun w hw => by go_simp <;> rfl) hS ?_
    simp only [List.getElem_toArray, List.getElem_cons_succ, List.getElem_cons_zero, Act.put, List.setIfInBounds_toArray, List.set_cons_zero, List.set_cons_succ]
    refine hg_skip 12 rfl rfl (by kernel_rfl) (by kernel_rfl) (by kernel_rfl) (fun _ _ _ h => h) hS ?_
    refine hg_skip 13 rfl rfl (by kernel_rfl) (by kernel_rfl) (by kernel_rfl) (fun _ _ _ h => h) hS ?_
    refine hg_skip 14 rfl rfl (by kernel_rfl) (by kernel_rfl) (by kernel_rfl) (fun _ _ _ h => h) hS ?_
    simp only [List.getElem_toArray, List.getElem_cons_succ, List.getElem_cons_zero, Act.put, List.setIfInBounds_toArray, List.set_cons_zero, List.set_cons_succ]
    refine hd_take 15 (_) rfl rfl (by kernel_rfl) (by kernel_rfl) (by kernel_rfl) (fun _ _ _ h => h) (fun w hw => by go_simp <;> rfl) hS ?_
    simp only [List.getElem_toArray, List.getElem_cons_succ, List.getElem_cons_zero, Act.put, List.setIfInBounds_toArray, List.set_cons_zero, List.set_cons_succ]
    refine hd_take 16 (_) rfl rfl (by kernel_rfl) (by kernel_rfl) (by kernel_rfl) (fun _ _ _ h => h) (fun w hw => by go_simp <;> rfl) hS ?_
    simp only [List.getElem_toArray, List.getElem_cons_succ, List.getElem_cons_zero, Act.put, List.setIfInBounds_toArray, List.set_cons_zero, List.set_cons_succ]
    refine hg_skip 17 rfl rfl (by kernel_rfl) (by kernel_rfl) (by kernel_rfl) (fun _ _ _ h => h) hS ?_
    refine hg_skip 18 rfl rfl (by kernel_rfl) (by kernel_rfl) (by kernel_rfl) (fun _ _ _ h => h) hS ?_
    refine hg_skip 19 rfl rfl (by kernel_rfl) (by kernel_rfl) (by kernel_rfl) (fun _ _ _ h => h) hS ?_
    refine hg_skip 20 rfl rfl (by kernel_rfl) (by kernel_rfl) (by kernel_rfl) (fun _ _ _ h => h) hS ?_
    refine hg_skip 21 rfl rfl (by kernel_rfl) (by kernel_rfl) (by kernel_rfl) (fun _ _ _ h => h) hS ?_
    refine hg_skip 22 rfl rfl (by kernel_rfl) (by kernel_rfl) (by kernel_rfl) (fun _ _ _ h => h) hS ?_
    refine hg_skip 23 rfl rfl (by kernel_rfl) (by kernel_rfl) (by kernel_rfl) (fun _ _ _ h => h) hS ?_
    refine hg_skip 24 rfl rfl (by kernel_rfl) (by kernel_rfl) (by kernel_rfl) (fun _ _ _ h => h) hS ?_
    simp only [List.getElem_toArray, List.getElem_cons_succ, List.getElem_cons_zero, Act.put, List.setIfInBounds_toArray, List.set_cons_zero, List.set_cons_succ]
    refine hd_take 25 (_) rfl rfl (by kernel_rfl) (by kernel_rfl) (by kernel_rfl) (fun _ _ _ h => h) (fun w hw => by go_simp <;> rfl) hS ?_
    simp only [List.getElem_toArray, List.getElem_cons_succ, List.getElem_cons_zero, Act.put, List.setIfInBounds_toArray, List.set_cons_zero, List.set_cons_succ]
    refine hd_take 26 (_) rfl rfl (by kernel_rfl) (by kernel_rfl) (by kernel_rfl) (fun _ _ _ h => h) (fun w hw => by go_simp <;> rfl) hS ?_
    simp only [List.getElem_toArray, List.getElem_cons_succ, List.getElem_cons_zero, Act.put, List.setIfInBounds_toArray, List.set_cons_zero, List.set_cons_succ]
    refine wpAnyH_done (by kernel_rfl) (NoPanic.normal ?_) _
    clear hS
    go_wp2_with fail
    go_ret
    exact ⟨by rw [HOP.out]; simp, bel_on b0 D0.drew⟩
  | true =>
    refine hg_take 3 (_) rfl rfl (by kernel_rfl) (by kernel_rfl) (by kernel_rfl) (fun _ _ _ h => h) (fun w hw => by go_simp <;> rfl) hS ?_
    refine hg_take 6 (_) rfl rfl (by kernel_rfl) (by kernel_rfl) (by kernel_rfl) (fun _ _ _ h => h) (fun w hw => by go_simp <;> rfl) hS ?_
    simp only [List.getElem_toArray, List.getElem_cons_succ, List.getElem_cons_zero, Act.put, List.setIfInBounds_toArray, List.set_cons_zero, List.set_cons_succ]
    refine hg_take 4 (.slice H k h) rfl rfl (by kernel_rfl) (by kernel_rfl) (by kernel_rfl) (fun _ _ _ h => h) (fun w hw => by have hx := hw.2.1; simp [go_sem, hx]) hS ?_
    refine hg_take 7 (.slice Y n y) rfl rfl (by kernel_rfl) (by kernel_rfl) (by kernel_rfl) (fun _ _ _ h => h) (fun w hw => by have hx := hw.2.2.1; simp [go_sem, hx]) hS ?_
    simp only [List.getElem_toArray, List.getElem_cons_succ, List.getElem_cons_zero, Act.put, List.setIfInBounds_toArray, List.set_cons_zero, List.set_cons_succ]
    refine hg_take 5 (_) rfl rfl (by kernel_rfl) (by kernel_rfl) (by kernel_rfl) (fun _ _ _ h => h) (fun w hw => by go_simp <;> rfl) hS ?_
    refine hg_take 8 (_) rfl rfl (by kernel_rfl) (by kernel_rfl) (by kernel_rfl) (fun _ _ _ h => h) (fun w hw => by go_simp <;> rfl) hS ?_
    simp only [List.getElem_toArray, List.getElem_cons_succ, List.getElem_cons_zero, Act.put, List.setIfInBounds_toArray, List.set_cons_zero, List.set_cons_succ]
    by_cases hkn : k = n
    · have e1 : ((k : Int) == (n : Int)) = true := by simp; omega
      refine hg_take 9 (.bool true) rfl rfl (by kernel_rfl) (by kernel_rfl) (by kernel_rfl) (fun _ _ _ h => h) (fun w hw => by simp [go_sem, e1]) hS ?_
      simp only [List.getElem_toArray, List.getElem_cons_succ, List.getElem_cons_zero, Act.put, List.setIfInBounds_toArray, List.set_cons_zero, List.set_cons_succ]
      refine hd_take 10 (_) rfl rfl (by kernel_rfl) (by kernel_rfl) (by kernel_rfl) (fun _ _ _ h => h) (fun w hw => by go_simp <;> rfl) hS ?_
      simp only [List.getElem_toArray, List.getElem_cons_succ, List.getElem_cons_zero, Act.put, List.setIfInBounds_toArray, List.set_cons_zero, List.set_cons_succ]
      refine hd_take 11 (_) rfl rfl (by kernel_rfl) (by kernel_rfl) (by kernel_rfl) (fun _ _ _ h => h) (fun w hw => by go_simp <;> rfl) hS ?_
      simp only [List.getElem_toArray, List.getElem_cons_succ, List.getElem_cons_zero, Act.put, List.setIfInBounds_toArray, List.set_cons_zero, List.set_cons_succ]
      refine hg_take 12 (_) rfl rfl (by kernel_rfl) (by kernel_rfl) (by kernel_rfl) (fun _ _ _ h => h) (fun w hw => by go_simp <;> rfl) hS ?_
      simp only [List.getElem_toArray, List.getElem_cons_succ, List.getElem_cons_zero, Act.put, List.setIfInBounds_toArray, List.set_cons_zero, List.set_cons_succ]
      refine hg_take 13 (.slice H k h) rfl rfl (by kernel_rfl) (by kernel_rfl) (by kernel_rfl) (fun _ _ _ h => h) (fun w hw => by have hx := hw.2.1; simp [go_sem, hx]) hS ?_
      simp only [List.getElem_toArray, List.getElem_cons_succ, List.getElem_cons_zero, Act.put, List.setIfInBounds_toArray, List.set_cons_zero, List.set_cons_succ]
      refine hg_calls 14 61 #[.slice H k h, .int .u8 1] rfl rfl (by kernel_rfl) (by go_simp <;> rfl) ?_
      refine (HSY.out _ (bel_on b0 D0.drew)).mono ?_
      rintro e w3 ⟨rfl, rfl⟩
      refine ⟨_, rfl, hS, ?_⟩
      simp only [List.getElem_toArray, List.getElem_cons_succ, List.getElem_cons_zero, Act.put, List.setIfInBounds_toArray, List.set_cons_zero, List.set_cons_succ]
      cases s with
      | false =>
        refine hd_take 15 (_) rfl rfl (by kernel_rfl) (by kernel_rfl) (by kernel_rfl) (fun _ _ _ h => h) (fun w hw => by go_simp <;> rfl) hS ?_
        simp only [List.getElem_toArray, List.getElem_cons_succ, List.getElem_cons_zero, Act.put, List.setIfInBounds_toArray, List.set_cons_zero, List.set_cons_succ]
        refine hd_take 16 (_) rfl rfl (by kernel_rfl) (by kernel_rfl) (by kernel_rfl) (fun _ _ _ h => h) (fun w hw => by go_simp <;> rfl) hS ?_
        simp only [List.getElem_toArray, List.getElem_cons_succ, List.getElem_cons_zero, Act.put, List.setIfInBounds_toArray, List.set_cons_zero, List.set_cons_succ]
        refine hg_skip 17 rfl rfl (by kernel_rfl) (by kernel_rfl) (by kernel_rfl) (fun _ _ _ h => h) hS ?_
        refine hg_skip 18 rfl rfl (by kernel_rfl) (by kernel_rfl) (by kernel_rfl) (fun _ _ _ h => h) hS ?_
        refine hg_skip 19 rfl rfl (by kernel_rfl) (by kernel_rfl) (by kernel_rfl) (fun _ _ _ h => h) hS ?_
        refine hg_skip 20 rfl rfl (by kernel_rfl) (by kernel_rfl) (by kernel_rfl) (fun _ _ _ h => h) hS ?_
        refine hg_skip 21 rfl rfl (by kernel_rfl) (by kernel_rfl) (by kernel_rfl) (fun _ _ _ h => h) hS ?_
        refine hg_skip 22 rfl rfl (by kernel_rfl) (by kernel_rfl) (by kernel_rfl) (fun _ _ _ h => h) hS ?_
        refine hg_skip 23 rfl rfl (by kernel_rfl) (by kernel_rfl) (by kernel_rfl) (fun _ _ _ h => h) hS ?_
        refine hg_skip 24 rfl rfl (by kernel_rfl) (by kernel_rfl) (by kernel_rfl) (fun _ _ _ h => h) hS ?_
        simp only [List.getElem_toArray, List.getElem_cons_succ, List.getElem_cons_zero, Act.put, List.setIfInBounds_toArray, List.set_cons_zero, List.set_cons_succ]
        refine hd_take 25 (_) rfl rfl (by kernel_rfl) (by kernel_rfl) (by kernel_rfl) (fun _ _ _ h => h) (fun w hw => by go_simp <;> rfl) hS ?_
        simp only [List.getElem_toArray, List.getElem_cons_succ, List.getElem_cons_zero, Act.put, List.setIfInBounds_toArray, List.set_cons_zero, List.set_cons_succ]
        refine hd_take 26 (_) rfl rfl (by kernel_rfl) (by kernel_rfl) (by kernel_rfl) (fun _ _ _ h => h) (fun w hw => by go_simp <;> rfl) hS ?_
        simp only [List.getElem_toArray, List.getElem_cons_succ, List.getElem_cons_zero, Act.put, List.setIfInBounds_toArray, List.set_cons_zero, List.set_cons_succ]
        refine wpAnyH_done (by kernel_rfl) (NoPanic.normal ?_) _
        clear hS
        go_wp2_with fail
        go_ret
        exact ⟨by rw [HOP.out]; simp, bel_on b0 D0.drew⟩
      | true =>
        refine hd_take 15 (_) rfl rfl (by kernel_rfl) (by kernel_rfl) (by kernel_rfl) (fun _ _ _ h => h) (fun w hw => by go_simp <;> rfl) hS ?_
        simp only [List.getElem_toArray, List.getElem_cons_succ, List.getElem_cons_zero, Act.put, List.setIfInBounds_toArray, List.set_cons_zero, List.set_cons_succ]
        refine hd_take 16 (_) rfl rfl (by kernel_rfl) (by kernel_rfl) (by kernel_rfl) (fun _ _ _ h => h) (fun w hw => by go_simp <;> rfl) hS ?_
        simp only [List.getElem_toArray, List.getElem_cons_succ, List.getElem_cons_zero, Act.put, List.setIfInBounds_toArray, List.set_cons_zero, List.set_cons_succ]
        refine hg_take 17 (_) rfl rfl (by kernel_rfl) (by kernel_rfl) (by kernel_rfl) (fun _ _ _ h => h) (fun w hw => by go_simp <;> rfl) hS ?_
        refine hg_take 19 (_) rfl rfl (by kernel_rfl) (by kernel_rfl) (by kernel_rfl) (fun _ _ _ h => h) (fun w hw => by go_simp <;> rfl) hS ?_
        refine hg_take 22 (_) rfl rfl (by kernel_rfl) (by kernel_rfl) (by kernel_rfl) (fun _ _ _ h => h) (fun w hw => by go_simp <;> rfl) hS ?_
        simp only [List.getElem_toArray, List.getElem_cons_succ, List.getElem_cons_zero, Act.put, List.setIfInBounds_toArray, List.set_cons_zero, List.set_cons_succ]
        refine hg_take 18 (.slice H k h) rfl rfl (by kernel_rfl) (by kernel_rfl) (by kernel_rfl) (fun _ _ _ h => h) (fun w hw => by have hx := hw.2.1; simp [go_sem, hx]) hS ?_
        refine hg_load 20 w.heap.size 39 (cellsB nonce) _ _ rfl rfl rfl (by kernel_rfl) (by kernel_rfl) (by kernel_rfl) (fun _ _ _ h => h) rfl (fun w hw => hw.2.2.2.1) under_key rfl (key_info HNN.out) hS ?_
        refine hg_load 23 w.heap.size 16 (cellsB com) _ _ rfl rfl rfl (by kernel_rfl) (by kernel_rfl) (by kernel_rfl) (fun _ _ _ h => h) rfl (fun w hw => hw.2.2.2.2) under_key rfl (key_info HC.out) hS ?_
        simp only [List.getElem_toArray, List.getElem_cons_succ, List.getElem_cons_zero, Act.put, List.setIfInBounds_toArray, List.set_cons_zero, List.set_cons_succ]
        refine hg_calls 21 62 #[.slice H k h, .agg (cellsB nonce).toArray] rfl rfl (by kernel_rfl) (by go_simp <;> rfl) ?_
        refine (HCO.out rfl _ (bel_on b0 D0.drew)).mono ?_
        rintro e w4 ⟨rfl, hb4⟩
        have D4 := bel_on D0.drew hb4
        have hS4 := HS.out _ D4
        refine ⟨_, rfl, hS4, ?_⟩
        simp only [List.getElem_toArray, List.getElem_cons_succ, List.getElem_cons_zero, Act.put, List.setIfInBounds_toArray, List.set_cons_zero, List.set_cons_succ]
        refine hg_take 24 (.bool (d == com)) rfl rfl (by kernel_rfl) (by kernel_rfl) (by kernel_rfl) (fun _ _ _ h => h) (fun w hw => by have hx := equalIn_keys w d com HDL HC; simp [go_sem, hx]) hS4 ?_
        simp only [List.getElem_toArray, List.getElem_cons_succ, List.getElem_cons_zero, Act.put, List.setIfInBounds_toArray, List.set_cons_zero, List.set_cons_succ]
        refine hd_take 25 (_) rfl rfl (by kernel_rfl) (by kernel_rfl) (by kernel_rfl) (fun _ _ _ h => h) (fun w hw => by go_simp <;> rfl) hS4 ?_
        simp only [List.getElem_toArray, List.getElem_cons_succ, List.getElem_cons_zero, Act.put, List.setIfInBounds_toArray, List.set_cons_zero, List.set_cons_succ]
        refine hd_take 26 (_) rfl rfl (by kernel_rfl) (by kernel_rfl) (by kernel_rfl) (fun _ _ _ h => h) (fun w hw => by go_simp <;> rfl) hS4 ?_
        simp only [List.getElem_toArray, List.getElem_cons_succ, List.getElem_cons_zero, Act.put, List.setIfInBounds_toArray, List.set_cons_zero, List.set_cons_succ]
        refine wpAnyH_done (by kernel_rfl) (NoPanic.normal ?_) _
        clear hS hS4 hb4
        have HKN := Lib.hid hkn
        clear hkn
        generalize hdc : (d == com) = z
        have HDC := Lib.hid hdc
        clear hdc
        go_wp2_with fail
        go_ret
        exact ⟨by rw [HOP.out, HDC.out, HKN.out]; simp, bel_on b0 D4⟩
    · have e1 : ((k : Int) == (n : Int)) = false := by simp; omega
      refine hg_take 9 (.bool false) rfl rfl (by kernel_rfl) (by kernel_rfl) (by kernel_rfl) (fun _ _ _ h => h) (fun w hw => by simp [go_sem, e1]) hS ?_
      simp only [List.getElem_toArray, List.getElem_cons_succ, List.getElem_cons_zero, Act.put, List.setIfInBounds_toArray, List.set_cons_zero, List.set_cons_succ]
      refine hd_take 10 (_) rfl rfl (by kernel_rfl) (by kernel_rfl) (by kernel_rfl) (fun _ _ _ h => h) (fun w hw => by go_simp <;> rfl) hS ?_
      simp only [List.getElem_toArray, List.getElem_cons_succ, List.getElem_cons_zero, Act.put, List.setIfInBounds_toArray, List.set_cons_zero, List.set_cons_succ]
      refine hd_take 11 (_) rfl rfl (by kernel_rfl) (by kernel_rfl) (by kernel_rfl) (fun _ _ _ h => h) (fun w hw => by go_simp <;> rfl) hS ?_
      simp only [List.getElem_toArray, List.getElem_cons_succ, List.getElem_cons_zero, Act.put, List.setIfInBounds_toArray, List.set_cons_zero, List.set_cons_succ]
      refine hg_skip 12 rfl rfl (by kernel_rfl) (by kernel_rfl) (by kernel_rfl) (fun _ _ _ h => h) hS ?_
      refine hg_skip 13 rfl rfl (by kernel_rfl) (by kernel_rfl) (by kernel_rfl) (fun _ _ _ h => h) hS ?_
      refine hg_skip 14 rfl rfl (by kernel_rfl) (by kernel_rfl) (by kernel_rfl) (fun _ _ _ h => h) hS ?_
      simp only [List.getElem_toArray, List.getElem_cons_succ, List.getElem_cons_zero, Act.put, List.setIfInBounds_toArray, List.set_cons_zero, List.set_cons_succ]
      refine hd_take 15 (_) rfl rfl (by kernel_rfl) (by kernel_rfl) (by kernel_rfl) (fun _ _ _ h => h) (fun w hw => by go_simp <;> rfl) hS ?_
      simp only [List.getElem_toArray, List.getElem_cons_succ, List.getElem_cons_zero, Act.put, List.setIfInBounds_toArray, List.set_cons_zero, List.set_cons_succ]
      refine hd_take 16 (_) rfl rfl (by kernel_rfl) (by kernel_rfl) (by kernel_rfl) (fun _ _ _ h => h) (fun w hw => by go_simp <;> rfl) hS ?_
      simp only [List.getElem_toArray, List.getElem_cons_succ, List.getElem_cons_zero, Act.put, List.setIfInBounds_toArray, List.set_cons_zero, List.set_cons_succ]
      refine hg_skip 17 rfl rfl (by kernel_rfl) (by kernel_rfl) (by kernel_rfl) (fun _ _ _ h => h) hS ?_
      refine hg_skip 18 rfl rfl (by kernel_rfl) (by kernel_rfl) (by kernel_rfl) (fun _ _ _ h => h) hS ?_
      refine hg_skip 19 rfl rfl (by kernel_rfl) (by kernel_rfl) (by kernel_rfl) (fun _ _ _ h => h) hS ?_
      refine hg_skip 20 rfl rfl (by kernel_rfl) (by kernel_rfl) (by kernel_rfl) (fun _ _ _ h => h) hS ?_
      refine hg_skip 21 rfl rfl (by kernel_rfl) (by kernel_rfl) (by kernel_rfl) (fun _ _ _ h => h) hS ?_
      refine hg_skip 22 rfl rfl (by kernel_rfl) (by kernel_rfl) (by kernel_rfl) (fun _ _ _ h => h) hS ?_
      refine hg_skip 23 rfl rfl (by kernel_rfl) (by kernel_rfl) (by kernel_rfl) (fun _ _ _ h => h) hS ?_
      refine hg_skip 24 rfl rfl (by kernel_rfl) (by kernel_rfl) (by kernel_rfl) (fun _ _ _ h => h) hS ?_
      simp only [List.getElem_toArray, List.getElem_cons_succ, List.getElem_cons_zero, Act.put, List.setIfInBounds_toArray, List.set_cons_zero, List.set_cons_succ]
      refine hd_take 25 (_) rfl rfl (by kernel_rfl) (by kernel_rfl) (by kernel_rfl) (fun _ _ _ h => h) (fun w hw => by go_simp <;> rfl) hS ?_
      simp only [List.getElem_toArray, List.getElem_cons_succ, List.getElem_cons_zero, Act.put, List.setIfInBounds_toArray, List.set_cons_zero, List.set_cons_succ]
      refine hd_take 26 (_) rfl rfl (by kernel_rfl) (by kernel_rfl) (by kernel_rfl) (fun _ _ _ h => h) (fun w hw => by go_simp <;> rfl) hS ?_
      simp only [List.getElem_toArray, List.getElem_cons_succ, List.getElem_cons_zero, Act.put, List.setIfInBounds_toArray, List.set_cons_zero, List.set_cons_succ]
      refine wpAnyH_done (by kernel_rfl) (NoPanic.normal ?_) _
      clear hS
      have HKN := Lib.hid hkn
      clear hkn e1
      go_wp2_with fail
      go_ret
      exact ⟨by rw [HOP.out, decide_eq_false HKN.out]; simp, bel_on b0 D0.drew⟩
end Go.Proofs.YtinpiodfpnbllaaGreatDoor

/- The third test of a case, and the document's count. -/
namespace Go.Proofs.YtinpiodfpnbllaaGreatDoor
open Go.RowKit
set_option linter.unusedVariables false
set_option linter.unusedSimpArgs false

set_option maxHeartbeats 4000000 in
set_option maxRecDepth 100000 in
theorem test3_any (v : CV) (A : Option Addr) (m c : Nat) (Y : Option Addr) (n y : Nat) (H : Option Addr) (k h : Nat) (w : World) (g : CaseOK w v A m c Y n y H k h) (hkn : k = n) (h1 : 1 ≤ n) :
    Calls Tryz.prog 224 #[.agg (caseC v A m c Y n y H k h).toArray] w fun e w' => e = .returned (.bool (agreesB v)) ∧ Below w.heap.size w w' := by
  obtain rfl : n = k := hkn.symm
  have b0 := alloc_bel w (.cells (caseC v A m c Y n y H n h).toArray 29)
  have B0 := Blk.new w 29 (caseC v A m c Y n y H n h).toArray
  have HBX : Hid (∀ W, Below (w.alloc (.cells (caseC v A m c Y n y H n h).toArray 29)).heap.size (w.alloc (.cells (caseC v A m c Y n y H n h).toArray 29)) W → Box W w.heap.size v A m c Y n y H n h) := fun W hW => box_of (B0.below' hW) g.r16 g.c16 g.n16
  have D0 : Below (w.alloc (.cells (caseC v A m c Y n y H n h).toArray 29)).heap.size (w.alloc (.cells (caseC v A m c Y n y H n h).toArray 29)) (w.alloc (.cells (caseC v A m c Y n y H n h).toArray 29)) := Below.refl _ _
  have hkl := g.half.len
  have hki : (n : Int) ≤ 140737488351232 := by rw [g.hk] at hkl; omega
  have HYR := Lib.hid (g.cp.below b0)
  have HHR := Lib.hid (g.half.below b0)
  have HK := Lib.hid g.hk
  have HN := Lib.hid g.hn
  have HAG : Hid (agreesB v = decide (v.need ≤ (agreeN v.half v.cp n : Int))) := by unfold Hid agreesB; rw [g.hn]
  generalize agreesB v = q at HAG ⊢
  generalize caseC v A m c Y n y H n h = cs at HBX b0 D0 HYR HHR ⊢
  obtain ⟨W0, hW0⟩ : ∃ W, W = w.alloc (.cells cs.toArray 29) := ⟨_, rfl⟩
  rw [← hW0] at HBX b0 D0 HYR HHR
  have HW0 := Lib.hid hW0
  obtain ⟨root, com, a, b, P, cp, need, op, half, nonce⟩ := v
  dsimp only at HAG HYR HHR HK HN
  have k35 : W0.cell? ⟨w.heap.size, 35, none⟩ = some (.slice Y n y) := (HBX.out _ D0).c35
  have HS : Hid (∀ W, Below W0.heap.size W0 W → W.cell? ⟨w.heap.size, 36, none⟩ = some (.int .i64 need) ∧ W.cell? ⟨w.heap.size, 38, none⟩ = some (.slice H n h)) := fun W hW => by
    have := HBX.out W hW
    exact ⟨this.c36, this.c38⟩
  obtain ⟨yb, yo, hY, _, _⟩ := HYR.out.at_ (i := 0) (by have := HN.out; omega)
  obtain ⟨hb, ho, hH, _, _⟩ := HHR.out.at_ (i := 0) (by have := HK.out; omega)
  subst hY hH
  have HYB : Hid (∀ W, Below W0.heap.size W0 W → ∀ i, i < n → W.cell? ⟨yb, yo + i, none⟩ = some (.int .u8 (bt cp i : Int))) := fun W hW i hi => by
    obtain ⟨b', off', e, _, hc⟩ := (HYR.out.below hW).at_ (i := i) (by have := HN.out; omega)
    injection e with e
    injection e with e1 e2
    subst e1 e2
    exact hc
  have HHB : Hid (∀ W, Below W0.heap.size W0 W → ∀ i, i < n → W.cell? ⟨hb, ho + i, none⟩ = some (.int .u8 (bt half i : Int))) := fun W hW i hi => by
    obtain ⟨b', off', e, _, hc⟩ := (HHR.out.below hW).at_ (i := i) (by have := HK.out; omega)
    injection e with e
    injection e with e1 e2
    subst e1 e2
    exact hc
  clear g hkl h1 hW0 B0 HBX HYR HHR
  go_enter Tryz.func224, Tryz.ntmps224
  go_wp2_with (rw [← HW0.out])
  go_loop [3, 9] (fun vm vk => ∃ (k : Nat), k ≤ n ∧ vk = .int .i64 (k : Int) ∧ vm = .int .i64 (agreeN half cp k : Int)) (fun _ vk => n - (intOf vk).toNat)
  case atStart => exact ⟨0, by omega, rfl, rfl⟩
  case round =>
    obtain ⟨k, hk, rfl, rfl⟩ := hrel
    have hal := agreeN_le half cp k
    by_cases hkn : k < n
    · have hy := HYB.out _ D0 k hkn
      have hh := HHB.out _ D0 k hkn
      have h38 := (HS.out _ D0).2
      have hki : (k : Int) < n := by omega
      have HST := Lib.hid (agreeN_yes (x := half) (y := cp) (i := k))
      have HSF := Lib.hid (agreeN_no (x := half) (y := cp) (i := k))
      by_cases he : bt half k = bt cp k
      · have hd : (bt cp k : Int) = (bt half k : Int) := by omega
        have HE := Lib.hid (HST.out he)
        rw [hd] at hy
        generalize (bt half k : Int) = z at hy hh
        clear he hd HST HSF
        go_wp2_with fail
        go_round
        case rel => exact ⟨k + 1, by omega, by go_num, by rw [HE.out]; go_num⟩
        case measure => simp [intOf]; omega
      · have hd : ¬ (bt cp k : Int) = (bt half k : Int) := by omega
        have HE := Lib.hid (HSF.out he)
        generalize (bt half k : Int) = z at hy hh hd
        generalize (bt cp k : Int) = z' at hy hd
        clear he HST HSF
        go_wp2_with fail
        go_round
        case rel => exact ⟨k + 1, by omega, by go_num, by rw [HE.out]⟩
        case measure => simp [intOf]; omega
    · obtain rfl : k = n := by omega
      have hki : (k : Int) ≤ k := Int.le_refl _
      have h36 := (HS.out _ D0).1
      generalize agreeN half cp k = z at HAG hal ⊢
      go_wp2_with fail
      go_ret
      exact ⟨by rw [HAG.out]; simp, bel_on b0 D0⟩

set_option maxHeartbeats 4000000 in
/-- The document's count of agreements. -/
theorem refAgreements_any (A C : Option Addr) (ca cc : Nat) (a b : List UInt8) (w : World) {n : Nat} (ha : a.length = n) (hb : b.length = n) (h1 : 1 ≤ n) (hA : BR w A ca a) (hC : BR w C cc b) :
    Calls Tryz.prog 76 #[.slice A n ca, .slice C n cc] w fun e w' => e = .returned (.int .i64 (agreeN a b n : Int)) ∧ Below w.heap.size w w' := by
  have hn : (n : Int) ≤ 140737488351232 := by have := hA.len; omega
  have HA := Lib.hid ha
  have HB := Lib.hid hb
  have HRA := Lib.hid hA
  have HRC := Lib.hid hC
  obtain ⟨xa, xo, hX, _, _⟩ := hA.at_ (i := 0) (by omega)
  obtain ⟨ya, yo, hY, _, _⟩ := hC.at_ (i := 0) (by omega)
  subst hX hY
  have HXB : Hid (∀ W, Below w.heap.size w W → ∀ i, i < n → W.cell? ⟨xa, xo + i, none⟩ = some (.int .u8 (bt a i : Int))) := fun W hW i hi => by
    obtain ⟨b', off', e, _, hc⟩ := (HRA.out.below hW).at_ (i := i) (by have := HA.out; omega)
    injection e with e
    injection e with e1 e2
    subst e1 e2
    exact hc
  have HYB : Hid (∀ W, Below w.heap.size w W → ∀ i, i < n → W.cell? ⟨ya, yo + i, none⟩ = some (.int .u8 (bt b i : Int))) := fun W hW i hi => by
    obtain ⟨b', off', e, _, hc⟩ := (HRC.out.below hW).at_ (i := i) (by have := HB.out; omega)
    injection e with e
    injection e with e1 e2
    subst e1 e2
    exact hc
  clear ha hb h1 hA hC HRA HRC
  have D0 : Below w.heap.size w w := Below.refl _ _
  go_enter Tryz.func76, Tryz.ntmps76
  go_wp2_with fail
  go_loopw [5, 6] (fun vm vk W => ∃ (k : Nat), k ≤ n ∧ vk = .int .i64 (k : Int) ∧ vm = .int .i64 (agreeN a b k : Int) ∧ Below w.heap.size w W) (fun _ vk _ => n - (intOf vk).toNat)
  case atStart => exact ⟨0, by omega, rfl, rfl, D0⟩
  case round =>
    obtain ⟨k, hk, rfl, rfl, DW⟩ := hrel
    have hal := agreeN_le a b k
    by_cases hkn : k < n
    · have hy := HYB.out _ DW k hkn
      have hh := HXB.out _ DW k hkn
      have hki : (k : Int) < n := by omega
      have HST := Lib.hid (agreeN_yes (x := a) (y := b) (i := k))
      have HSF := Lib.hid (agreeN_no (x := a) (y := b) (i := k))
      by_cases he : bt a k = bt b k
      · have hd : (bt b k : Int) = (bt a k : Int) := by omega
        have HE := Lib.hid (HST.out he)
        rw [hd] at hy
        generalize (bt a k : Int) = z at hy hh
        clear he hd HST HSF
        go_wp2_with fail
        go_quiet (fail)
        go_wp2_with fail
        go_roundw
        case rel => exact ⟨k + 1, by omega, by go_num, by rw [HE.out]; go_num, below_drewN DW _⟩
        case measure => simp [intOf]; omega
      · have hd : ¬ (bt a k : Int) = (bt b k : Int) := by omega
        have HE := Lib.hid (HSF.out he)
        generalize (bt a k : Int) = z at hy hh hd
        generalize (bt b k : Int) = z' at hy hd
        clear he HST HSF
        go_wp2_with fail
        go_quiet (fail)
        go_wp2_with fail
        go_roundw
        case rel => exact ⟨k + 1, by omega, by go_num, by rw [HE.out], below_drewN DW _⟩
        case measure => simp [intOf]; omega
    · obtain rfl : k = n := by omega
      have hki : (k : Int) ≤ k := Int.le_refl _
      clear hal
      go_wp2_with fail
      go_ret
      exact ⟨by first | rfl | simp, DW⟩
end Go.Proofs.YtinpiodfpnbllaaGreatDoor

/- The verdict on a case. -/
namespace Go.Proofs.YtinpiodfpnbllaaGreatDoor
open Go.RowKit
set_option linter.unusedVariables false
set_option linter.unusedSimpArgs false

/-- The table of the tests. -/
def TestsIn (w : World) : Prop := w.rangeAt 0 0 [.int .u8 1, .func (.func 222) #[] #[], .int .u8 2, .func (.func 223) #[] #[], .int .u8 4, .func (.func 224) #[] #[]]
theorem fitB_iff {v : CV} : fitB v = true ↔ halfB v.cp 2 = true ∧ 1 ≤ v.need ∧ v.need ≤ (v.cp.length : Int) ∧ fitsB v.a v.b v.P.length = true := by simp [fitB]
theorem judge_bad {v : CV} (h : fitB v = false) : judgeS v = (0, 8) := by unfold judgeS; rw [if_pos h]
theorem judge_1 {v : CV} (h : fitB v = true) (h1 : givesB v = false) : judgeS v = (1, 0) := by unfold judgeS; rw [if_neg (by rw [h]; simp), if_pos h1]
theorem judge_2 {v : CV} (h : fitB v = true) (h1 : givesB v = true) (h2 : opensB v = false) : judgeS v = (2, 0) := by unfold judgeS; rw [if_neg (by rw [h]; simp), if_neg (by rw [h1]; simp), if_pos h2]
theorem judge_3 {v : CV} (h : fitB v = true) (h1 : givesB v = true) (h2 : opensB v = true) (h3 : agreesB v = true) : judgeS v = (3, 0) := by unfold judgeS; rw [if_neg (by rw [h]; simp), if_neg (by rw [h1]; simp), if_neg (by rw [h2]; simp), if_pos h3]
theorem judge_4 {v : CV} (h : fitB v = true) (h1 : givesB v = true) (h2 : opensB v = true) (h3 : agreesB v = false) : judgeS v = (4, 0) := by unfold judgeS; rw [if_neg (by rw [h]; simp), if_neg (by rw [h1]; simp), if_neg (by rw [h2]; simp), if_neg (by rw [h3]; simp)]
theorem opens_same {v : CV} (h : opensB v = true) : v.half.length = v.cp.length := by
  unfold opensB at h
  simp only [Bool.and_eq_true, decide_eq_true_eq] at h
  exact h.2.1

set_option maxHeartbeats 8000000 in
set_option maxRecDepth 100000 in
theorem Judge_any (v : CV) (A : Option Addr) (m c : Nat) (Y : Option Addr) (n y : Nat) (H : Option Addr) (k h : Nat) (w : World) (g : CaseOK w v A m c Y n y H k h) (hT : TestsIn w) :
    Calls Tryz.prog 23 #[.agg (caseC v A m c Y n y H k h).toArray] w fun e w' => e = .returned (.tuple #[.int .u8 (judgeS v).1, .int .i64 (judgeS v).2]) ∧ Below w.heap.size w w' := by
  have b0 := alloc_bel w (.cells (caseC v A m c Y n y H k h).toArray 29)
  have B0 := Blk.new w 29 (caseC v A m c Y n y H k h).toArray
  have HBX : Hid (∀ W, Below (w.alloc (.cells (caseC v A m c Y n y H k h).toArray 29)).heap.size (w.alloc (.cells (caseC v A m c Y n y H k h).toArray 29)) W → Box W w.heap.size v A m c Y n y H k h) := fun W hW => box_of (B0.below' hW) g.r16 g.c16 g.n16
  have HBK : Hid (∀ W, Below (w.alloc (.cells (caseC v A m c Y n y H k h).toArray 29)).heap.size (w.alloc (.cells (caseC v A m c Y n y H k h).toArray 29)) W → Blk W w.heap.size 29 (caseC v A m c Y n y H k h).toArray) := fun W hW => B0.below' hW
  have HCI := Lib.hid (case_info (v := v) (A := A) (m := m) (c := c) (Y := Y) (n := n) (y := y) (H := H) (k := k) (h := h) g.r16 g.c16 g.n16)
  have D0 : Below (w.alloc (.cells (caseC v A m c Y n y H k h).toArray 29)).heap.size (w.alloc (.cells (caseC v A m c Y n y H k h).toArray 29)) (w.alloc (.cells (caseC v A m c Y n y H k h).toArray 29)) := Below.refl _ _
  have hnl := g.cp.len
  have hml := g.P.len
  have hni : (n : Int) ≤ 140737488351232 := by rw [g.hn] at hnl; omega
  have HTW : Hid (∀ W, Below w.heap.size w W → W.rangeAt 0 0 [.int .u8 1, .func (.func 222) #[] #[], .int .u8 2, .func (.func 223) #[] #[], .int .u8 4, .func (.func 224) #[] #[]]) := fun W hW => range_below hT hW
  have HSY : Hid (∀ W, Below w.heap.size w W → Calls Tryz.prog 61 #[.slice Y n y, .int .u8 2] W fun e w' => e = .returned (.bool (halfB v.cp 2)) ∧ W = w') := fun W hW => auditSyms_any Y y v.cp 2 W g.hn (g.cp.below hW) (by omega)
  have HF : Hid (∀ W, Calls Tryz.prog 73 #[.agg #[.int .i64 v.a, .int .i64 v.b, .slice A m c]] W fun e w' => e = .returned (.bool (fitsB v.a v.b m)) ∧ Below W.heap.size W w') := fun W => fits_any v.a v.b A m c W (by rw [← g.hm]; exact hml)
  have HFI : Hid (fitB v = true ↔ halfB v.cp 2 = true ∧ 1 ≤ v.need ∧ v.need ≤ (n : Int) ∧ fitsB v.a v.b m = true) := by unfold Hid; rw [fitB_iff, g.hn, g.hm]
  have HJ0 := Lib.hid (@judge_bad v)
  have HJ1 := Lib.hid (@judge_1 v)
  have HJ2 := Lib.hid (@judge_2 v)
  have HJ3 := Lib.hid (@judge_3 v)
  have HJ4 := Lib.hid (@judge_4 v)
  have HO := Lib.hid (@opens_same v)
  have HC1 : Hid (fitsB v.a v.b m = true → ∀ W, Below w.heap.size w W → Calls Tryz.prog 222 #[.agg (caseC v A m c Y n y H k h).toArray] W fun e w' => e = .returned (.bool (givesB v)) ∧ Below W.heap.size W w') := fun hf W hW => test1_any v A m c Y n y H k h W (g.below hW) hf
  have HC2 : Hid (∀ W, Below w.heap.size w W → Calls Tryz.prog 223 #[.agg (caseC v A m c Y n y H k h).toArray] W fun e w' => e = .returned (.bool (opensB v)) ∧ Below W.heap.size W w') := fun W hW => test2_any v A m c Y n y H k h W (g.below hW)
  have HC3 : Hid (opensB v = true → 1 ≤ n → ∀ W, Below w.heap.size w W → Calls Tryz.prog 224 #[.agg (caseC v A m c Y n y H k h).toArray] W fun e w' => e = .returned (.bool (agreesB v)) ∧ Below W.heap.size W w') := fun ho h1 W hW => test3_any v A m c Y n y H k h W (g.below hW) (by rw [← g.hk, ← g.hn]; exact HO.out ho) h1
  clear HO
  generalize judgeS v = J at HJ0 HJ1 HJ2 HJ3 HJ4 ⊢
  generalize givesB v = t1 at HJ1 HJ2 HJ3 HJ4 HC1
  generalize opensB v = t2 at HJ2 HJ3 HJ4 HC2 HC3
  generalize agreesB v = t3 at HJ3 HJ4 HC3
  generalize fitB v = q at HFI HJ0 HJ1 HJ2 HJ3 HJ4
  generalize halfB v.cp 2 = s at HSY HFI
  generalize fitsB v.a v.b m = f at HF HFI HC1
  generalize caseC v A m c Y n y H k h = cs at HBX HBK HCI b0 D0 HC1 HC2 HC3 ⊢
  obtain ⟨W0, hW0⟩ : ∃ W, W = w.alloc (.cells cs.toArray 29) := ⟨_, rfl⟩
  rw [← hW0] at HBX HBK b0 D0
  have HW0 := Lib.hid hW0
  obtain ⟨root, com, a, b, P, cp, need, op, half, nonce⟩ := v
  dsimp only at HF HFI
  have k35 : W0.cell? ⟨w.heap.size, 35, none⟩ = some (.slice Y n y) := (HBX.out _ D0).c35
  have k36 : W0.cell? ⟨w.heap.size, 36, none⟩ = some (.int .i64 need) := (HBX.out _ D0).c36
  have k32 : W0.cell? ⟨w.heap.size, 32, none⟩ = some (.int .i64 a) := (HBX.out _ D0).pr 0 _ rfl
  have k33 : W0.cell? ⟨w.heap.size, 33, none⟩ = some (.int .i64 b) := (HBX.out _ D0).pr 1 _ rfl
  have k34 : W0.cell? ⟨w.heap.size, 34, none⟩ = some (.slice A m c) := (HBX.out _ D0).pr 2 _ rfl
  clear g hnl hml hT hW0 B0 HBX
  have ways : s = false ∨ (s = true ∧ need < 1) ∨ (s = true ∧ 1 ≤ need ∧ (n : Int) < need) ∨ (s = true ∧ 1 ≤ need ∧ need ≤ (n : Int) ∧ f = false) ∨ (s = true ∧ 1 ≤ need ∧ need ≤ (n : Int) ∧ f = true) := by
    cases s <;> cases f <;> simp <;> omega
  rcases ways with rfl | ⟨rfl, h1⟩ | ⟨rfl, h1, h2⟩ | ⟨rfl, h1, h2, rfl⟩ | ⟨rfl, h1, h2, rfl⟩
  · have HJ : Hid (J = (0, 8)) := HJ0.out (by cases q with | false => rfl | true => have := HFI.out.1 rfl; simp at this; try omega)
    clear HJ0 HJ1 HJ2 HJ3 HJ4 HC1 HC2 HC3 HFI 
    go_enter Tryz.func23, Tryz.ntmps23
    go_wp2_with (first
    | (go_at_call 61; (first | rw [← HW0.out] | skip); refine (HSY.out _ b0).mono ?_; rintro e w1 ⟨rfl, rfl⟩)
    | (go_at_call 73; refine (HF.out _).mono ?_; rintro e w1 ⟨rfl, hb1⟩; have D1 := bel_on D0 hb1; clear hb1)
    | rw [← HW0.out])
    go_ret2
    exact ⟨by rw [HJ.out]; first | rfl | simp, bel_on b0 D0⟩
  · have HJ : Hid (J = (0, 8)) := HJ0.out (by cases q with | false => rfl | true => have := HFI.out.1 rfl; simp at this; try omega)
    have s1 : decide (need < 1) = true := by simp; omega
    clear HJ0 HJ1 HJ2 HJ3 HJ4 HC1 HC2 HC3 HFI h1
    go_enter Tryz.func23, Tryz.ntmps23
    go_wp2_with (first
    | (go_at_call 61; (first | rw [← HW0.out] | skip); refine (HSY.out _ b0).mono ?_; rintro e w1 ⟨rfl, rfl⟩)
    | (go_at_call 73; refine (HF.out _).mono ?_; rintro e w1 ⟨rfl, hb1⟩; have D1 := bel_on D0 hb1; clear hb1)
    | rw [← HW0.out])
    go_ret2
    exact ⟨by rw [HJ.out]; first | rfl | simp, bel_on b0 D0⟩
  · have HJ : Hid (J = (0, 8)) := HJ0.out (by cases q with | false => rfl | true => have := HFI.out.1 rfl; simp at this; try omega)
    have s1 : decide (need < 1) = false := by simp; omega
    have s2 : decide ((n : Int) < need) = true := by simp; omega
    clear HJ0 HJ1 HJ2 HJ3 HJ4 HC1 HC2 HC3 HFI h1 h2
    go_enter Tryz.func23, Tryz.ntmps23
    go_wp2_with (first
    | (go_at_call 61; (first | rw [← HW0.out] | skip); refine (HSY.out _ b0).mono ?_; rintro e w1 ⟨rfl, rfl⟩)
    | (go_at_call 73; refine (HF.out _).mono ?_; rintro e w1 ⟨rfl, hb1⟩; have D1 := bel_on D0 hb1; clear hb1)
    | rw [← HW0.out])
    go_ret2
    exact ⟨by rw [HJ.out]; first | rfl | simp, bel_on b0 D0⟩
  · have HJ : Hid (J = (0, 8)) := HJ0.out (by cases q with | false => rfl | true => have := HFI.out.1 rfl; simp at this; try omega)
    have s1 : decide (need < 1) = false := by simp; omega
    have s2 : decide ((n : Int) < need) = false := by simp; omega
    clear HJ0 HJ1 HJ2 HJ3 HJ4 HC1 HC2 HC3 HFI h1 h2
    go_enter Tryz.func23, Tryz.ntmps23
    go_wp2_with (first
    | (go_at_call 61; (first | rw [← HW0.out] | skip); refine (HSY.out _ b0).mono ?_; rintro e w1 ⟨rfl, rfl⟩)
    | (go_at_call 73; refine (HF.out _).mono ?_; rintro e w1 ⟨rfl, hb1⟩; have D1 := bel_on D0 hb1; clear hb1)
    | rw [← HW0.out])
    go_ret2
    exact ⟨by rw [HJ.out]; first | rfl | simp, bel_on b0 D1⟩
  · have hq : q = true := HFI.out.2 ⟨rfl, h1, h2, rfl⟩
    subst hq
    have s1 : decide (need < 1) = false := by simp; omega
    have s2 : decide ((n : Int) < need) = false := by simp; omega
    have HC1' := Lib.hid (HC1.out rfl)
    have HC3' : Hid (t2 = true → ∀ W, Below w.heap.size w W → Calls Tryz.prog 224 #[.agg cs.toArray] W fun e w' => e = .returned (.bool t3) ∧ Below W.heap.size W w') := fun ht => HC3.out ht (by omega)
    have hix0 : ∀ W, (Instr.index 130 (.agg #[.int .u8 1, .func (.func 222) #[] #[], .int .u8 2, .func (.func 223) #[] #[], .int .u8 4, .func (.func 224) #[] #[]]) (.int .i64 0)).run Tryz.prog W = .ok (.agg #[.int .u8 1, .func (.func 222) #[] #[]]) W := fun _ => by kernel_rfl
    have hix1 : ∀ W, (Instr.index 130 (.agg #[.int .u8 1, .func (.func 222) #[] #[], .int .u8 2, .func (.func 223) #[] #[], .int .u8 4, .func (.func 224) #[] #[]]) (.int .i64 1)).run Tryz.prog W = .ok (.agg #[.int .u8 2, .func (.func 223) #[] #[]]) W := fun _ => by kernel_rfl
    have hix2 : ∀ W, (Instr.index 130 (.agg #[.int .u8 1, .func (.func 222) #[] #[], .int .u8 2, .func (.func 223) #[] #[], .int .u8 4, .func (.func 224) #[] #[]]) (.int .i64 2)).run Tryz.prog W = .ok (.agg #[.int .u8 4, .func (.func 224) #[] #[]]) W := fun _ => by kernel_rfl
    clear HJ0 HC1 HC3 HFI h1 h2
    go_enter Tryz.func23, Tryz.ntmps23
    go_wp2_with (first
    | (go_at_call 61; (first | rw [← HW0.out] | skip); refine (HSY.out _ b0).mono ?_; rintro e w1 ⟨rfl, rfl⟩)
    | (go_at_call 73; refine (HF.out _).mono ?_; rintro e w1 ⟨rfl, hb1⟩; have D1 := bel_on D0 hb1; clear hb1)
    | rw [← HW0.out]
    | (refine wpList_load_mid rfl 130 (.global 0) rfl 0 0 rfl [.int .u8 1, .func (.func 222) #[] #[], .int .u8 2, .func (.func 223) #[] #[], .int .u8 4, .func (.func 224) #[] #[]] _ (HTW.out _ (bel_on b0 D1)) Tryz.underlying130 rfl (by kernel_rfl) ?_))
    go_loopw [30] (fun vi wr => ((vi = .int .i64 0) ∨ (vi = .int .i64 1 ∧ Hid (t1 = true)) ∨ (vi = .int .i64 2 ∧ Hid (t1 = true) ∧ Hid (t2 = true)) ∨ (vi = .int .i64 3 ∧ Hid (t1 = true) ∧ Hid (t2 = true) ∧ Hid (t3 = true))) ∧ Below W0.heap.size W0 wr) (fun vi _ => 3 - (intOf vi).toNat)
    case atStart => exact ⟨.inl rfl, D1⟩
    case round =>
      obtain ⟨hrel, DW⟩ := hrel
      rcases hrel with rfl | ⟨rfl, T1⟩ | ⟨rfl, T1, T2⟩ | ⟨rfl, T1, T2, T3⟩
      · cases t1 with
        | false =>
          have HJ := Lib.hid (HJ1.out (by simp) (by simp))
          clear HJ1 HJ2 HJ3 HJ4
          go_wp2_with (first
            | (refine wpList_store_row rfl 129 (.tmp 5) (.tmp 32) rfl wr.heap.size #[.int .u8 1, .func (.func 222) #[] #[]] rfl rfl 129 #[.int .u8 0, .nilFunc] (Blk.new wr _ _) (by kernel_rfl) rfl (by simp [Value.oneCell']) ?_; obtain ⟨W2, hW2⟩ : ∃ W, W = (wr.alloc (.cells #[.int .u8 0, .nilFunc] 129)).setRow wr.heap.size #[.int .u8 1, .func (.func 222) #[] #[]] := ⟨_, rfl⟩; rw [← hW2]; have B2 : Blk W2 wr.heap.size 129 #[.int .u8 1, .func (.func 222) #[] #[]] := (by rw [hW2]; exact (Blk.new wr _ _).setRow _); have DW2 : Below W0.heap.size W0 W2 := (by rw [hW2]; exact below_setRow (bel_on DW (alloc_bel wr _)) DW.size _); have c1 : W2.cell? ⟨wr.heap.size, 1, none⟩ = some (.func (.func 222) #[] #[]) := B2.cell 1; clear hW2)
            | (refine wpList_load_row rfl 29 (.tmp 1) rfl w.heap.size rfl 29 cs.toArray (0, 0) _ (HBK.out _ DW2) Tryz.underlying29 rfl HCI.out ?_)
            | (go_at_call 222; refine (HC1'.out _ (bel_on b0 DW2)).mono ?_; rintro e w2 ⟨rfl, hb2⟩; have D2 := bel_on DW2 hb2; have c0 : w2.cell? ⟨wr.heap.size, 0, none⟩ = some (.int .u8 1) := (B2.below' hb2).cell 0; clear hb2))
          go_ret2
          exact ⟨by rw [HJ.out]; first | rfl | simp, bel_on b0 D2⟩
        | true =>
          go_wp2_with (first
            | (refine wpList_store_row rfl 129 (.tmp 5) (.tmp 32) rfl wr.heap.size #[.int .u8 1, .func (.func 222) #[] #[]] rfl rfl 129 #[.int .u8 0, .nilFunc] (Blk.new wr _ _) (by kernel_rfl) rfl (by simp [Value.oneCell']) ?_; obtain ⟨W2, hW2⟩ : ∃ W, W = (wr.alloc (.cells #[.int .u8 0, .nilFunc] 129)).setRow wr.heap.size #[.int .u8 1, .func (.func 222) #[] #[]] := ⟨_, rfl⟩; rw [← hW2]; have B2 : Blk W2 wr.heap.size 129 #[.int .u8 1, .func (.func 222) #[] #[]] := (by rw [hW2]; exact (Blk.new wr _ _).setRow _); have DW2 : Below W0.heap.size W0 W2 := (by rw [hW2]; exact below_setRow (bel_on DW (alloc_bel wr _)) DW.size _); have c1 : W2.cell? ⟨wr.heap.size, 1, none⟩ = some (.func (.func 222) #[] #[]) := B2.cell 1; clear hW2)
            | (refine wpList_load_row rfl 29 (.tmp 1) rfl w.heap.size rfl 29 cs.toArray (0, 0) _ (HBK.out _ DW2) Tryz.underlying29 rfl HCI.out ?_)
            | (go_at_call 222; refine (HC1'.out _ (bel_on b0 DW2)).mono ?_; rintro e w2 ⟨rfl, hb2⟩; have D2 := bel_on DW2 hb2; have c0 : w2.cell? ⟨wr.heap.size, 0, none⟩ = some (.int .u8 1) := (B2.below' hb2).cell 0; clear hb2))
          go_roundw
          case rel => exact ⟨.inr (.inl ⟨rfl, Lib.hid (by simp)⟩), D2⟩
          case measure => simp [intOf]
      · cases t2 with
        | false =>
          have HJ := Lib.hid (HJ2.out (by simp) T1.out (by simp))
          clear HJ1 HJ2 HJ3 HJ4
          go_wp2_with (first
            | (refine wpList_store_row rfl 129 (.tmp 5) (.tmp 32) rfl wr.heap.size #[.int .u8 2, .func (.func 223) #[] #[]] rfl rfl 129 #[.int .u8 0, .nilFunc] (Blk.new wr _ _) (by kernel_rfl) rfl (by simp [Value.oneCell']) ?_; obtain ⟨W2, hW2⟩ : ∃ W, W = (wr.alloc (.cells #[.int .u8 0, .nilFunc] 129)).setRow wr.heap.size #[.int .u8 2, .func (.func 223) #[] #[]] := ⟨_, rfl⟩; rw [← hW2]; have B2 : Blk W2 wr.heap.size 129 #[.int .u8 2, .func (.func 223) #[] #[]] := (by rw [hW2]; exact (Blk.new wr _ _).setRow _); have DW2 : Below W0.heap.size W0 W2 := (by rw [hW2]; exact below_setRow (bel_on DW (alloc_bel wr _)) DW.size _); have c1 : W2.cell? ⟨wr.heap.size, 1, none⟩ = some (.func (.func 223) #[] #[]) := B2.cell 1; clear hW2)
            | (refine wpList_load_row rfl 29 (.tmp 1) rfl w.heap.size rfl 29 cs.toArray (0, 0) _ (HBK.out _ DW2) Tryz.underlying29 rfl HCI.out ?_)
            | (go_at_call 223; refine (HC2.out _ (bel_on b0 DW2)).mono ?_; rintro e w2 ⟨rfl, hb2⟩; have D2 := bel_on DW2 hb2; have c0 : w2.cell? ⟨wr.heap.size, 0, none⟩ = some (.int .u8 2) := (B2.below' hb2).cell 0; clear hb2))
          go_ret2
          exact ⟨by rw [HJ.out]; first | rfl | simp, bel_on b0 D2⟩
        | true =>
          go_wp2_with (first
            | (refine wpList_store_row rfl 129 (.tmp 5) (.tmp 32) rfl wr.heap.size #[.int .u8 2, .func (.func 223) #[] #[]] rfl rfl 129 #[.int .u8 0, .nilFunc] (Blk.new wr _ _) (by kernel_rfl) rfl (by simp [Value.oneCell']) ?_; obtain ⟨W2, hW2⟩ : ∃ W, W = (wr.alloc (.cells #[.int .u8 0, .nilFunc] 129)).setRow wr.heap.size #[.int .u8 2, .func (.func 223) #[] #[]] := ⟨_, rfl⟩; rw [← hW2]; have B2 : Blk W2 wr.heap.size 129 #[.int .u8 2, .func (.func 223) #[] #[]] := (by rw [hW2]; exact (Blk.new wr _ _).setRow _); have DW2 : Below W0.heap.size W0 W2 := (by rw [hW2]; exact below_setRow (bel_on DW (alloc_bel wr _)) DW.size _); have c1 : W2.cell? ⟨wr.heap.size, 1, none⟩ = some (.func (.func 223) #[] #[]) := B2.cell 1; clear hW2)
            | (refine wpList_load_row rfl 29 (.tmp 1) rfl w.heap.size rfl 29 cs.toArray (0, 0) _ (HBK.out _ DW2) Tryz.underlying29 rfl HCI.out ?_)
            | (go_at_call 223; refine (HC2.out _ (bel_on b0 DW2)).mono ?_; rintro e w2 ⟨rfl, hb2⟩; have D2 := bel_on DW2 hb2; have c0 : w2.cell? ⟨wr.heap.size, 0, none⟩ = some (.int .u8 2) := (B2.below' hb2).cell 0; clear hb2))
          go_roundw
          case rel => exact ⟨.inr (.inr (.inl ⟨rfl, T1, Lib.hid (by simp)⟩)), D2⟩
          case measure => simp [intOf]
      · cases t3 with
        | false =>
          have HJ := Lib.hid (HJ4.out (by simp) T1.out T2.out (by simp))
          clear HJ1 HJ2 HJ3 HJ4
          go_wp2_with (first
            | (refine wpList_store_row rfl 129 (.tmp 5) (.tmp 32) rfl wr.heap.size #[.int .u8 4, .func (.func 224) #[] #[]] rfl rfl 129 #[.int .u8 0, .nilFunc] (Blk.new wr _ _) (by kernel_rfl) rfl (by simp [Value.oneCell']) ?_; obtain ⟨W2, hW2⟩ : ∃ W, W = (wr.alloc (.cells #[.int .u8 0, .nilFunc] 129)).setRow wr.heap.size #[.int .u8 4, .func (.func 224) #[] #[]] := ⟨_, rfl⟩; rw [← hW2]; have B2 : Blk W2 wr.heap.size 129 #[.int .u8 4, .func (.func 224) #[] #[]] := (by rw [hW2]; exact (Blk.new wr _ _).setRow _); have DW2 : Below W0.heap.size W0 W2 := (by rw [hW2]; exact below_setRow (bel_on DW (alloc_bel wr _)) DW.size _); have c1 : W2.cell? ⟨wr.heap.size, 1, none⟩ = some (.func (.func 224) #[] #[]) := B2.cell 1; clear hW2)
            | (refine wpList_load_row rfl 29 (.tmp 1) rfl w.heap.size rfl 29 cs.toArray (0, 0) _ (HBK.out _ DW2) Tryz.underlying29 rfl HCI.out ?_)
            | (go_at_call 224; refine (HC3'.out T2.out _ (bel_on b0 DW2)).mono ?_; rintro e w2 ⟨rfl, hb2⟩; have D2 := bel_on DW2 hb2; have c0 : w2.cell? ⟨wr.heap.size, 0, none⟩ = some (.int .u8 4) := (B2.below' hb2).cell 0; clear hb2))
          go_ret2
          exact ⟨by rw [HJ.out]; first | rfl | simp, bel_on b0 D2⟩
        | true =>
          go_wp2_with (first
            | (refine wpList_store_row rfl 129 (.tmp 5) (.tmp 32) rfl wr.heap.size #[.int .u8 4, .func (.func 224) #[] #[]] rfl rfl 129 #[.int .u8 0, .nilFunc] (Blk.new wr _ _) (by kernel_rfl) rfl (by simp [Value.oneCell']) ?_; obtain ⟨W2, hW2⟩ : ∃ W, W = (wr.alloc (.cells #[.int .u8 0, .nilFunc] 129)).setRow wr.heap.size #[.int .u8 4, .func (.func 224) #[] #[]] := ⟨_, rfl⟩; rw [← hW2]; have B2 : Blk W2 wr.heap.size 129 #[.int .u8 4, .func (.func 224) #[] #[]] := (by rw [hW2]; exact (Blk.new wr _ _).setRow _); have DW2 : Below W0.heap.size W0 W2 := (by rw [hW2]; exact below_setRow (bel_on DW (alloc_bel wr _)) DW.size _); have c1 : W2.cell? ⟨wr.heap.size, 1, none⟩ = some (.func (.func 224) #[] #[]) := B2.cell 1; clear hW2)
            | (refine wpList_load_row rfl 29 (.tmp 1) rfl w.heap.size rfl 29 cs.toArray (0, 0) _ (HBK.out _ DW2) Tryz.underlying29 rfl HCI.out ?_)
            | (go_at_call 224; refine (HC3'.out T2.out _ (bel_on b0 DW2)).mono ?_; rintro e w2 ⟨rfl, hb2⟩; have D2 := bel_on DW2 hb2; have c0 : w2.cell? ⟨wr.heap.size, 0, none⟩ = some (.int .u8 4) := (B2.below' hb2).cell 0; clear hb2))
          go_roundw
          case rel => exact ⟨.inr (.inr (.inr ⟨rfl, T1, T2, Lib.hid (by simp)⟩)), D2⟩
          case measure => simp [intOf]
      · have HJ := Lib.hid (HJ3.out (by simp) T1.out T2.out T3.out)
        clear HJ1 HJ2 HJ3 HJ4
        go_wp2_with fail
        go_ret2
        exact ⟨by rw [HJ.out]; first | rfl | simp, bel_on b0 DW⟩
end Go.Proofs.YtinpiodfpnbllaaGreatDoor

/- What the rows' condition on the table of the tests says of the memory. -/
namespace Go.Proofs.YtinpiodfpnbllaaGreatDoor
open Go.ChangeShapes Go.WideShapes Go.ChangeAt Go.RowKit
set_option linter.unusedVariables false

theorem test_of_trod {W : World} {fuel : Nat} {cs : List Value} {k : Int} {b : UInt8} {r : List UInt8} {q : List MemPlace} {f0 : FuncId}
    (hone : ((List.range Tryz.prog.funcs.size).filter fun f => (Tryz.prog.funcs[f]?).any (·.name.toUTF8.data.toList == b :: r)) = [f0])
    (h : DataW.trod (funcToken Tryz.prog) Tryz.prog W 0 (fun _ => true) true fuel 129 cs = some (.agg [.lit (.int .u8 k), .held (b :: r)], q)) : cs = [.int .u8 k, .func (.func f0) #[] #[]] := by
  obtain ⟨y0, y1, n, hx, hl, h0, h1⟩ := trod_struct2 Tryz.underlying129 h
  dsimp only at h0 h1
  rw [show Tryz.prog.cellsOf 129 = 2 from by kernel_rfl] at hl
  have cu : Tryz.prog.cellsOf 5 = 1 := by kernel_rfl
  have cf : Tryz.prog.cellsOf 127 = 1 := by kernel_rfl
  rw [cu] at h0
  rw [cf] at h1
  obtain ⟨y1d, y1p⟩ := y1
  obtain ⟨x, e0, ey, _⟩ := DataW.trod_int Tryz.underlying5 h0
  subst ey
  simp only [Prod.mk.injEq, DataW.agg.injEq, List.cons.injEq, and_true, DataW.lit.injEq, Lit.int.injEq, true_and] at hx
  obtain ⟨⟨hk, hy⟩, _⟩ := hx
  subst hk hy
  match cs, hl with
  | [u, v], _ =>
    simp only [List.drop_zero, List.take_succ_cons, List.take_zero, List.drop_succ_cons, List.cons.injEq, and_true] at e0 h1
    have := func_of_trod (f0 := f0) Tryz.underlying127 hone h1
    rw [e0, this]
theorem gTests : Tryz.prog.globalNamed "headend/audit.tests" = some 0 := by kernel_rfl
theorem tTests : (Tryz.prog.globals[0]?).map (·.type) = some 130 := by kernel_rfl
/-- The row's condition gives the walks their table. -/
theorem of_laid {W : World} (h : laidMetH Tryz.prog [("headend/audit.tests", Rows.laid_headend_audit_tests)] W) : TestsIn W := by
  obtain ⟨g, t, cs, fuel, p, hg, ht, hv, hd⟩ := h.funcs (List.mem_singleton.2 rfl)
  obtain rfl := Option.some.inj (gTests.symm.trans hg)
  obtain rfl := Option.some.inj (tTests.symm.trans ht)
  have hd' : DataW.trod (funcToken Tryz.prog) Tryz.prog W 0 (fun _ => true) true fuel 130 cs.toList = some (.agg [.agg [.lit (.int .u8 1), .held [104, 101, 97, 100, 101, 110, 100, 47, 97, 117, 100, 105, 116, 46, 116, 101, 115, 116, 115, 36, 49]], .agg [.lit (.int .u8 2), .held [104, 101, 97, 100, 101, 110, 100, 47, 97, 117, 100, 105, 116, 46, 116, 101, 115, 116, 115, 36, 50]], .agg [.lit (.int .u8 4), .held [104, 101, 97, 100, 101, 110, 100, 47, 97, 117, 100, 105, 116, 46, 116, 101, 115, 116, 115, 36, 51]]], p) := hd
  obtain ⟨xs, m, _, hx, hl, hn, hel⟩ := DataW.trod_array Tryz.underlying130 hd'
  rw [show Tryz.prog.cellsOf 130 = 6 from by kernel_rfl] at hl
  have ct : Tryz.prog.cellsOf 129 = 2 := by kernel_rfl
  rw [ct] at hel
  have e0 := hel 0 (by omega)
  have e1 := hel 1 (by omega)
  have e2 := hel 2 (by omega)
  have hcs : cs.toList = [.int .u8 1, .func (.func 222) #[] #[], .int .u8 2, .func (.func 223) #[] #[], .int .u8 4, .func (.func 224) #[] #[]] := by
    match xs, hn with
    | [x0, x1, x2], _ =>
      obtain ⟨x0d, x0p⟩ := x0
      obtain ⟨x1d, x1p⟩ := x1
      obtain ⟨x2d, x2p⟩ := x2
      simp only [List.map_cons, List.map_nil, Prod.mk.injEq, DataW.agg.injEq, List.cons.injEq, and_true] at hx
      obtain ⟨⟨h0, h1, h2⟩, _⟩ := hx
      subst h0 h1 h2
      have t0 := test_of_trod (f0 := 222) (by kernel_rfl) e0
      have t1 := test_of_trod (f0 := 223) (by kernel_rfl) e1
      have t2 := test_of_trod (f0 := 224) (by kernel_rfl) e2
      match hcl : cs.toList, hl with
      | [c0, c1, c2, c3, c4, c5], _ =>
        rw [hcl] at t0 t1 t2
        simp only [Nat.zero_mul, Nat.one_mul, List.drop_zero, List.take_succ_cons, List.take_zero, List.drop_succ_cons, List.cons.injEq, and_true] at t0 t1 t2
        rw [t0.1, t0.2, t1.1, t1.2, t2.1, t2.2]
  intro i v hi
  have := World.var?_cell hg hv i
  rw [Nat.zero_add, this, ← Array.getElem?_toList, hcs]
  exact hi
end Go.Proofs.YtinpiodfpnbllaaGreatDoor

/- The examples' case in plain words. -/
namespace Go.Proofs.YtinpiodfpnbllaaGreatDoor
open Go.RowKit
set_option linter.unusedVariables false
set_option linter.unusedSimpArgs false

def keyN (n : UInt8) : List UInt8 := n :: List.replicate 15 0
theorem keyN_length (n : UInt8) : (keyN n).length = 16 := by simp [keyN]
theorem exHalf : halfB [0, 1, 1, 0] 1 = true := by decide +kernel
theorem exCopy : halfB [0, 1, 2, 0] 2 = true := by decide +kernel
def exK : List UInt8 := digS (openT [0, 1, 1, 0] (keyN 4))
theorem exK_length : exK.length = 16 := digS_length _
theorem ex_commit : cmS [0, 1, 1, 0] (keyN 4) = (exK, 0) := by unfold cmS; rw [if_pos exHalf]; rfl
def exL : List (List UInt8) := [keyN 1, exK, keyN 3]
theorem exL_16 : Keys16 exL := fun k hk => by
  simp only [exL, List.mem_cons, List.not_mem_nil, or_false] at hk
  rcases hk with rfl | rfl | rfl
  · exact keyN_length 1
  · exact exK_length
  · exact keyN_length 3
theorem ex_root : rtS exL = (rootS exL, 0) := by unfold rtS; simp [exL]
theorem ex_prove : proveS exL 1 = ⟨3, 1, pathS exL 1, 0⟩ := by unfold proveS; simp [exL]
theorem ex_steps : stepsS 3 1 = 2 := by decide +kernel
theorem ex_path : (pathS exL 1).length = 2 := by rw [pathS_steps 3 exL 1 rfl, ex_steps]
theorem ex_fits : fitsB 3 1 2 = true := by decide +kernel
/-- The examples' case. -/
def exV (z : Int) : CV := ⟨rootS exL, exK, 3, 1, pathS exL 1, [0, 1, 2, 0], z, true, [0, 1, 1, 0], keyN 4⟩
theorem ex_fit {z : Int} (h1 : 1 ≤ z) (h2 : z ≤ 4) : fitB (exV z) = true := fitB_iff.2 ⟨exCopy, h1, h2, by show fitsB 3 1 (pathS exL 1).length = true; rw [ex_path]; exact ex_fits⟩
theorem ex_gives (z : Int) : givesB (exV z) = true := by
  have := climb_path 3 exL 1 rfl (by omega)
  have e : exL.getD 1 [] = exK := by simp only [exL, List.getD_cons_succ, List.getD_cons_zero]
  rw [e] at this
  unfold givesB
  have e2 : climbS (exV z).com (exV z).a.toNat (exV z).b.toNat (exV z).P = climbS exK 3 1 (pathS exL 1) := by simp only [exV]; rfl
  rw [e2, this]
  exact beq_self_eq_true _
theorem ex_opens (z : Int) : opensB (exV z) = true := by
  unfold opensB
  have e : digS (openT (exV z).half (exV z).nonce) = (exV z).com := rfl
  rw [e, beq_self_eq_true, show (exV z).op = true from rfl, show halfB (exV z).half 1 = true from exHalf, decide_eq_true (show (exV z).half.length = (exV z).cp.length from rfl)]
  rfl
theorem ex_count : agreeN [0, 1, 1, 0] [0, 1, 2, 0] 4 = 3 := by decide +kernel
theorem ex_agrees (z : Int) : agreesB (exV z) = decide (z ≤ 3) := by
  show decide (z ≤ (agreeN [0, 1, 1, 0] [0, 1, 2, 0] 4 : Int)) = _
  rw [ex_count]; rfl
theorem ex_guilty : judgeS (exV 3) = (3, 0) := judge_3 (ex_fit (by omega) (by omega)) (ex_gives 3) (ex_opens 3) (by rw [ex_agrees]; rfl)
theorem ex_framed : judgeS (exV 4) = (4, 0) := judge_4 (ex_fit (by omega) (by omega)) (ex_gives 4) (ex_opens 4) (by rw [ex_agrees]; rfl)
end Go.Proofs.YtinpiodfpnbllaaGreatDoor

/- A case, made of its parts. -/
namespace Go.Proofs.YtinpiodfpnbllaaGreatDoor
open Go.RowKit
set_option linter.unusedVariables false

theorem fill_app (place : Nat → Option (Nat × Nat)) (pre mid post vs : List Value) (i off size : Nat) (v : Value) (rest : List (Nat × Value)) (hp : place i = some (off, size)) (hv : v.cells = vs.toArray) (h1 : pre.length = off) (h2 : mid.length = size) (h3 : vs.length = size) :
    Instr.fill place (pre ++ (mid ++ post)).toArray ((i, v) :: rest) = Instr.fill place ((pre ++ vs) ++ post).toArray rest := by
  rw [fill_step place _ i off size v vs rest hp hv h3 (by simp; omega)]
  have e1 : (pre ++ (mid ++ post)).take off = pre := by rw [← h1]; exact List.take_left
  have e2 : (pre ++ (mid ++ post)).drop (off + size) = post := by
    rw [← h1, ← h2, ← List.append_assoc, ← List.length_append]; exact List.drop_left
  show Instr.fill place ((pre ++ (mid ++ post)).take off ++ (vs ++ (pre ++ (mid ++ post)).drop (off + size))).toArray rest = _
  rw [e1, e2, List.append_assoc]
set_option maxRecDepth 100000 in
theorem built_case (v : CV) (A : Option Addr) (m c : Nat) (Y : Option Addr) (n y : Nat) (H : Option Addr) (k h : Nat) (h1 : v.root.length = 16) (h2 : v.com.length = 16) (h3 : v.nonce.length = 16) :
    Tryz.prog.built 29 [(0, .agg (cellsB v.root).toArray), (1, .agg (cellsB v.com).toArray), (2, .agg #[.int .i64 v.a, .int .i64 v.b, .slice A m c]), (3, .slice Y n y), (4, .int .i64 v.need), (5, .bool v.op), (6, .slice H k h), (7, .agg (cellsB v.nonce).toArray)] = some (caseC v A m c Y n y H k h).toArray := by
  have r1 : (cellsB v.root).length = 16 := by rw [cellsB_length, h1]
  have r2 : (cellsB v.com).length = 16 := by rw [cellsB_length, h2]
  have r3 : (cellsB v.nonce).length = 16 := by rw [cellsB_length, h3]
  have e : Tryz.prog.built 29 [(0, .agg (cellsB v.root).toArray), (1, .agg (cellsB v.com).toArray), (2, .agg #[.int .i64 v.a, .int .i64 v.b, .slice A m c]), (3, .slice Y n y), (4, .int .i64 v.need), (5, .bool v.op), (6, .slice H k h), (7, .agg (cellsB v.nonce).toArray)] = Instr.fill ((#[(0, 16), (16, 16), (32, 3), (35, 1), (36, 1), (37, 1), (38, 1), (39, 16)] : Array (Nat × Nat))[·]?) (([] : List Value) ++ ((cellsB zeroK : List Value) ++ ((cellsB zeroK : List Value) ++ ([Value.int .i64 0, Value.int .i64 0, Value.slice none 0 0] ++ ([Value.slice none 0 0] ++ ([Value.int .i64 0] ++ ([Value.bool false] ++ ([Value.slice none 0 0] ++ (cellsB zeroK ++ []))))))))).toArray [(0, .agg (cellsB v.root).toArray), (1, .agg (cellsB v.com).toArray), (2, .agg #[.int .i64 v.a, .int .i64 v.b, .slice A m c]), (3, .slice Y n y), (4, .int .i64 v.need), (5, .bool v.op), (6, .slice H k h), (7, .agg (cellsB v.nonce).toArray)] := by kernel_rfl
  refine e.trans ?_
  refine (fill_app _ [] (cellsB zeroK) _ (cellsB v.root) 0 0 16 _ _ rfl rfl rfl rfl r1).trans ?_
  refine (fill_app _ _ (cellsB zeroK) _ (cellsB v.com) 1 16 16 _ _ rfl rfl (by simp [r1]) rfl r2).trans ?_
  refine (fill_app _ _ [.int .i64 0, .int .i64 0, .slice none 0 0] _ [.int .i64 v.a, .int .i64 v.b, .slice A m c] 2 32 3 _ _ rfl rfl (by simp [r1, r2]) rfl rfl).trans ?_
  refine (fill_app _ _ [.slice none 0 0] _ [.slice Y n y] 3 35 1 _ _ rfl rfl (by simp [r1, r2]) rfl rfl).trans ?_
  refine (fill_app _ _ [.int .i64 0] _ [.int .i64 v.need] 4 36 1 _ _ rfl rfl (by simp [r1, r2]) rfl rfl).trans ?_
  refine (fill_app _ _ [.bool false] _ [.bool v.op] 5 37 1 _ _ rfl rfl (by simp [r1, r2]) rfl rfl).trans ?_
  refine (fill_app _ _ [.slice none 0 0] _ [.slice H k h] 6 38 1 _ _ rfl rfl (by simp [r1, r2]) rfl rfl).trans ?_
  refine (fill_app _ _ (cellsB zeroK) _ (cellsB v.nonce) 7 39 16 _ _ rfl rfl (by simp [r1, r2]) rfl r3).trans ?_
  rw [Instr.fill]
  refine congrArg (fun l => some (List.toArray l)) ?_
  simp [caseC, caseM]
theorem caseC_all (v : CV) (A : Option Addr) (m c : Nat) (Y : Option Addr) (n y : Nat) (H : Option Addr) (k h : Nat) : (caseC v A m c Y n y H k h).all (·.oneCell') = true := by
  rw [List.all_eq_true]
  intro x hx
  rw [caseC, List.mem_append, List.mem_append, List.mem_append] at hx
  rcases hx with hx | hx | hx | hx
  · exact cells_one v.root x hx
  · exact cells_one v.com x hx
  · simp only [caseM, List.mem_cons, List.not_mem_nil, or_false] at hx
    rcases hx with rfl | rfl | rfl | rfl | rfl | rfl | rfl <;> rfl
  · exact cells_one v.nonce x hx
end Go.Proofs.YtinpiodfpnbllaaGreatDoor

/- A list of keys, made of its keys. -/
namespace Go.Proofs.YtinpiodfpnbllaaGreatDoor
open Go.RowKit
set_option linter.unusedVariables false

def keyParts (ks : List (List UInt8)) (i : Nat) : List (Nat × Value) := (ks.zipIdx i).map fun x => (x.2, .agg (cellsB x.1).toArray)
theorem fill_keys : ∀ (ks : List (List UInt8)) (pre post : List Value) (i : Nat), Keys16 ks → pre.length = i * 16 → post.length = ks.length * 16 →
    Instr.fill (fun i => some (i * 16, 16)) (pre ++ post).toArray (keyParts ks i) = some (pre ++ cellsK ks).toArray
  | [], pre, post, i, _, _, hp => by
    have : post = [] := List.length_eq_zero_iff.1 (by simpa using hp)
    subst this
    rfl
  | k :: ks, pre, post, i, h, h1, hp => by
    have hk : (cellsB k).length = 16 := by rw [cellsB_length, h k List.mem_cons_self]
    have hp' : post.length = ks.length * 16 + 16 := by rw [hp, List.length_cons]; omega
    have e : post = post.take 16 ++ post.drop 16 := (List.take_append_drop 16 post).symm
    rw [e]
    show Instr.fill _ (pre ++ (post.take 16 ++ post.drop 16)).toArray ((i, .agg (cellsB k).toArray) :: keyParts ks (i + 1)) = _
    rw [fill_app _ pre (post.take 16) (post.drop 16) (cellsB k) i (i * 16) 16 _ _ rfl rfl h1 (by rw [List.length_take]; omega) hk]
    rw [fill_keys ks (pre ++ cellsB k) (post.drop 16) (i + 1) (fun x hx => h x (List.mem_cons_of_mem _ hx)) (by rw [List.length_append, h1, hk]; omega) (by rw [List.length_drop]; omega)]
    have : cellsK (k :: ks) = cellsB k ++ cellsK ks := rfl
    rw [this, List.append_assoc]
theorem run_build_keys (w : World) (ks : List (List UInt8)) (h : Keys16 ks) {n : Nat} (hn : ks.length = n) (h0 : 0 < n) (h1 : n ≤ 1000) (parts : Array (Nat × Value)) (hp : parts.toList = keyParts ks 0) :
    (Instr.buildSlice 25 n parts).run Tryz.prog w = .ok (.slice (some ⟨w.heap.size, 0, none⟩) n n) (w.alloc (.cells (cellsK ks).toArray 24)) := by
  obtain ⟨i0, hi0, hz0, hz1, hz2⟩ := info_parts key_info3
  refine run_buildSlice (P := Tryz.prog) w 25 24 n parts (cellsK ks).toArray i0 (.agg (cellsB zeroK).toArray) Tryz.underlying25 hi0 hz0 (by rw [hz1]; omega) (by rw [hz1]; omega) ?_
  rw [hz1, hp]
  obtain ⟨z, hz, hzs⟩ : ∃ z, Array.map (fun x => (Value.agg (cellsB zeroK).toArray).cells[x % (Value.agg (cellsB zeroK).toArray).cells.size]!) (Array.range (n * 16)) = z ∧ z.size = n * 16 := ⟨_, rfl, by simp⟩
  rw [hz]
  have := fill_keys ks [] z.toList 0 h rfl (by rw [Array.length_toList, hzs, hn])
  simpa using this
theorem wpList_build_keys {ops : Array Oper} {rest : List Oper} {o : Oper} {a : Act} {w : World} {Q : Exit → Act → World → Prop} (hgd : o.guard = none) (n : Nat) (parts : Array (Nat × Operand)) (ho : o.op = .buildSlice 25 n parts) (ks : List (List UInt8)) (h : Keys16 ks) (hn : ks.length = n) (h0 : 0 < n) (h1 : n ≤ 1000)
    (hx : (parts.map fun (i, x) => (i, a.eval x)).toList = keyParts ks 0)
    (hh : wpList Tryz.prog ops Q rest (a.put o.dst (.slice (some ⟨w.heap.size, 0, none⟩) n n)) (w.alloc (.cells (cellsK ks).toArray 24))) : wpList Tryz.prog ops Q (o :: rest) a w :=
  wpList_plain hgd fun K hK => by
    unfold Oper.wp execOp
    rw [ho]
    simp only [Sem.run_bind, run_build_keys w ks h hn h0 h1 _ hx, Result.andThen_ok]
    exact hK _ _ hh
end Go.Proofs.YtinpiodfpnbllaaGreatDoor

/- A list of keys just made; the keys of a path. -/
namespace Go.Proofs.YtinpiodfpnbllaaGreatDoor
open Go.RowKit
set_option linter.unusedVariables false

theorem OK16.litL (B : Nat) (w : World) (ks : List (List UInt8)) (h : Keys16 ks) (hB : B ≤ w.heap.size) (hl : ks.length ≤ 1000000) : OK16 B (w.alloc (.cells (cellsK ks).toArray 24)) (some ⟨w.heap.size, 0, none⟩) ks.length ks :=
  World.ownsRow_lit (e := 24) (size := 16) w (cellsK ks).toArray ks.length hB (by simp only [maxLen]; omega) (by rw [List.size_toArray, cellsK_length h])
theorem pathS_k16_ : ∀ (n : Nat) (l : List (List UInt8)) (i : Nat), l.length = n → ∀ k ∈ pathS l i, k.length = 16 := by
  intro n
  induction n using Nat.strongRecOn with
  | _ n ih =>
    intro l i hl k hk
    rcases Nat.lt_or_ge n 2 with h2 | h2
    · rw [pathS_one (by omega)] at hk; cases hk
    have s1 := splitS_lt h2
    have s2 := splitS_pos n
    by_cases hi : i < splitS n
    · rw [pathS_low (by omega) (by rw [hl]; exact hi), hl] at hk
      rcases List.mem_append.1 hk with hk | hk
      · exact ih (splitS n) s1 _ _ (by rw [List.length_take]; omega) k hk
      · rw [List.mem_singleton.1 hk]; exact rootS_length _
    · rw [pathS_high (by omega) (by rw [hl]; exact hi), hl] at hk
      rcases List.mem_append.1 hk with hk | hk
      · exact ih (n - splitS n) (by omega) _ _ (by rw [List.length_drop]; omega) k hk
      · rw [List.mem_singleton.1 hk]; exact rootS_length _
theorem partS_k16_ : ∀ (n : Nat) (l : List (List UInt8)) (m : Nat) (wh : Bool), l.length = n → ∀ k ∈ partS l m wh, k.length = 16 := by
  intro n
  induction n using Nat.strongRecOn with
  | _ n ih =>
    intro l m wh hl k hk
    rw [partS] at hk
    split at hk
    · split at hk
      · cases hk
      · rw [List.mem_singleton.1 hk]; exact rootS_length _
    · rename_i h
      have s1 := splitS_lt (n := l.length) (by omega)
      have s2 := splitS_pos l.length
      dsimp only at hk
      split at hk
      · rcases List.mem_append.1 hk with hk | hk
        · exact ih (splitS l.length) (by omega) _ _ _ (by rw [List.length_take]; omega) k hk
        · rw [List.mem_singleton.1 hk]; exact rootS_length _
      · rcases List.mem_append.1 hk with hk | hk
        · exact ih (l.length - splitS l.length) (by omega) _ _ _ (by rw [List.length_drop]) k hk
        · rw [List.mem_singleton.1 hk]; exact rootS_length _
theorem pathS_kle_ : ∀ (n : Nat) (l : List (List UInt8)) (i : Nat), l.length = n → (pathS l i).length ≤ n := by
  intro n
  induction n using Nat.strongRecOn with
  | _ n ih =>
    intro l i hl
    rcases Nat.lt_or_ge n 2 with h2 | h2
    · rw [pathS_one (by omega)]; simp
    have s1 := splitS_lt h2
    have s2 := splitS_pos n
    by_cases hi : i < splitS n
    · rw [pathS_low (by omega) (by rw [hl]; exact hi), hl, List.length_append]
      have := ih (splitS n) s1 (l.take (splitS n)) i (by rw [List.length_take]; omega)
      simp only [List.length_cons, List.length_nil]; omega
    · rw [pathS_high (by omega) (by rw [hl]; exact hi), hl, List.length_append]
      have := ih (n - splitS n) (by omega) (l.drop (splitS n)) (i - splitS n) (by rw [List.length_drop]; omega)
      simp only [List.length_cons, List.length_nil]; omega
theorem keybox2_ (w : World) (c0 z0 : Array Value) (t0 : TypeId) {W : World} (hW : W = (w.alloc (.cells z0 t0)).setRow w.heap.size c0) : Below w.heap.size w W ∧ Blk W w.heap.size t0 c0 := by
  subst hW
  exact ⟨below_setRow (alloc_bel w _) (Nat.le_refl _) _, (Blk.new w _ _).setRow _⟩
end Go.Proofs.YtinpiodfpnbllaaGreatDoor

/- Lists of entries in memory. -/
namespace Go.Proofs.YtinpiodfpnbllaaGreatDoor
open Go.RowKit
set_option linter.unusedVariables false

def cellsX (x : Ent) : List Value := [.int .i64 x.1, .int .i64 x.2]
def cellsE (es : List Ent) : List Value := es.flatMap cellsX
theorem cellsE_length : ∀ es : List Ent, (cellsE es).length = es.length * 2
  | [] => rfl
  | x :: es => by
    have := cellsE_length es
    unfold cellsE at this ⊢
    rw [List.flatMap_cons, List.length_append, this, List.length_cons]
    simp only [cellsX, List.length_cons, List.length_nil]
    omega
theorem cellsE_append (a b : List Ent) : cellsE (a ++ b) = cellsE a ++ cellsE b := by simp [cellsE]
theorem cells_oneE (es : List Ent) : ∀ v ∈ cellsE es, v.oneCell' = true := fun v hv => by
  obtain ⟨x, _, hv⟩ := List.mem_flatMap.1 hv
  rcases List.mem_cons.1 hv with rfl | hv
  · rfl
  · rw [List.mem_singleton.1 hv]; rfl
theorem cellsE_get : ∀ (es : List Ent) (i : Nat) (h : i < es.length), (cellsE es)[i * 2]? = some (.int .i64 es[i].1) ∧ (cellsE es)[i * 2 + 1]? = some (.int .i64 es[i].2)
  | [], i, h => absurd h (by simp)
  | x :: es, 0, _ => by constructor <;> rfl
  | x :: es, i + 1, h => by
    have := cellsE_get es i (by simpa using h)
    have e : cellsE (x :: es) = Value.int .i64 x.1 :: Value.int .i64 x.2 :: cellsE es := rfl
    rw [e, show (i + 1) * 2 = i * 2 + 1 + 1 from by omega, List.getElem?_cons_succ, List.getElem?_cons_succ]
    refine ⟨this.1, ?_⟩
    rw [List.getElem?_cons_succ, List.getElem?_cons_succ]
    exact this.2
/-- A slice that reads as entries. -/
def ER (w : World) (A : Option Addr) (c : Nat) (es : List Ent) : Prop := Rd w 2 A c es.length (cellsE es)
section
variable {w w' : World} {c : Nat} {A : Option Addr} {es : List Ent}
theorem ER.below (h : ER w A c es) (hb : Below w.heap.size w w') : ER w' A c es := Rd.below h hb
theorem ER.len (h : ER w A c es) : es.length ≤ 140737488351232 := Rd.len h
theorem ER.at_ (h : ER w A c es) {i : Nat} (hi : i < es.length) : ∃ b off, A = some ⟨b, off, none⟩ ∧ b < w.heap.size ∧ w.cell? ⟨b, off + i * 2, none⟩ = some (.int .i64 es[i].1) ∧ w.cell? ⟨b, off + i * 2 + 1, none⟩ = some (.int .i64 es[i].2) := by
  obtain ⟨b, off, e, hb, hc⟩ := h.2 (by omega)
  have hg := cellsE_get es i hi
  exact ⟨b, off, e, hb, hc _ _ hg.1, by have := hc _ _ hg.2; rwa [← Nat.add_assoc] at this⟩
end
/-- Entries that the call owns. -/
def OE (B : Nat) (w : World) (A : Option Addr) (c : Nat) (es : List Ent) : Prop := w.ownsRow B 98 2 (.slice A es.length c) es.length (cellsE es)
theorem OE.below {B : Nat} {w w' : World} {A : Option Addr} {c : Nat} {es : List Ent} (h : OE B w A c es) (hb : Below w.heap.size w w') : OE B w' A c es := ownsRow_below h hb
theorem OE.er {B : Nat} {w : World} {A : Option Addr} {c : Nat} {es : List Ent} (h : OE B w A c es) (hl : es.length ≤ 140737488351232) : ER w A c es := Rd.of_own h hl
theorem ent_info3 : (Tryz.prog.info? 98).map (fun i => (i.zero, i.size, i.bytes)) = some (some (.agg (cellsX (0, 0)).toArray), 2, 16) := by kernel_rfl
end Go.Proofs.YtinpiodfpnbllaaGreatDoor

/- The reference's Until: what a list says of a receiver. -/
namespace Go.Proofs.YtinpiodfpnbllaaGreatDoor
open Go.RowKit
set_option linter.unusedVariables false
set_option linter.unusedSimpArgs false

theorem untilS_drop {es : List Ent} {u : Int} {i : Nat} (h : i < es.length) : untilS (es.drop i) u = if es[i].1 = u then es[i].2 else untilS (es.drop (i + 1)) u := by
  rw [List.drop_eq_getElem_cons h]; rfl

end Go.Proofs.YtinpiodfpnbllaaGreatDoor

/- The laws' own helpers: the digest, the text of a node, the epoch of a receiver. -/
namespace Go.Proofs.YtinpiodfpnbllaaGreatDoor
open Go.RowKit
set_option linter.unusedVariables false
set_option linter.unusedSimpArgs false
attribute [local go_sem] run_storeCells_key run_storeCells_new


set_option maxHeartbeats 1000000 in
set_option maxRecDepth 100000 in
theorem lawDigest_any (b : List UInt8) (A : Option Addr) (c : Nat) (w : World) {L : Nat} (hL : b.length = L) (h : BR w A c b) (hl : L ≤ 16384) :
    Calls Tryz.prog 38 #[.slice A L c] w fun e w' => e = .returned (.agg (cellsB (digS b)).toArray) ∧ Below w.heap.size w w' := by
  have HZ := Lib.hid zero16
  have b0 := alloc_bel w (.cells (cellsB zeroK).toArray 24)
  have B0 := Lib.hid (Blk.new w 24 (cellsB zeroK).toArray)
  have HH : Hid (∀ W, Below w.heap.size w W → Calls Tryz.prog 92 #[.slice A L c] W fun e w' => e = .returned (.tuple #[.agg (cellsB (digS b)).toArray, .int .i64 0]) ∧ Below W.heap.size W w') := fun W hW => Hash_any b A c W hL (h.below hW) hl
  have HDL : Hid ((digS b).length = 16) := digS_length b
  generalize digS b = d at HH HDL
  have hdc : (cellsB d).length = 16 := by rw [cellsB_length, HDL.out]
  have hall := all16 d
  clear hL h hl
  go_enter Tryz.func38, Tryz.ntmps38
  go_wp2_with (first
    | (go_at_call 92; rw [HZ.out]; refine (HH.out _ b0).mono ?_; rintro e w1 ⟨rfl, hb1⟩; have b1 := bel_on b0 hb1; have Q1 := (B0.out.below' hb1).alloc (.cells (cellsB d).toArray 24); have hr1 : (rowAt (w1.alloc (.cells (cellsB d).toArray 24)) w.heap.size).size = 16 := (by rw [Q1.row]; rfl); have hf1 := Q1.free; have HQ1 := Lib.hid Q1; clear Q1)
    | (refine wpList_load_row rfl 24 (.tmp 3) rfl w1.heap.size rfl 24 (cellsB d).toArray (0, 0) _ (Blk.new w1 _ _) under_key rfl (cellsB_size _ HDL.out) ?_))
  exact bodyPost_ret (results_cell_row rfl _ _ w.heap.size _ _ (0, 0) _ rfl (HQ1.out.setRow (cellsB d).toArray) under_key rfl (cellsB_size _ HDL.out)) rfl ⟨rfl, below_setRow (b1.alloc b1.size _) (Nat.le_refl _) _⟩

set_option maxHeartbeats 1000000 in
theorem lawText_any (a b : List UInt8) (w : World) (ha : a.length = 16) (hb : b.length = 16) : Calls Tryz.prog 77 #[.agg (cellsB a).toArray, .agg (cellsB b).toArray] w fun e w' => (∃ A c, e = .returned (.slice A 33 c) ∧ OB w.heap.size w' A c (nodeX a b)) ∧ Below w.heap.size w w' := by
  have HA := Lib.hid ha
  have HB := Lib.hid hb
  have HL := Lib.hid (lit_after2 w (.cells (cellsB a).toArray 24) (.cells (cellsB b).toArray 24) 1)
  have HBa := Lib.hid (blk_a0 w (cellsB a).toArray 24 (.cells (cellsB b).toArray 24) (.cells #[.int .u8 ((1 : UInt8).toNat : Int)] 5))
  have HBb := Lib.hid (blk_a1 w (.cells (cellsB a).toArray 24) (cellsB b).toArray 24 (.cells #[.int .u8 ((1 : UInt8).toNat : Int)] 5))
  have b0 := alloc3_bel w (.cells (cellsB a).toArray 24) (.cells (cellsB b).toArray 24) (.cells #[.int .u8 ((1 : UInt8).toNat : Int)] 5)
  have HAL : Hid ((([1] : List UInt8) ++ a).length = 17) := by unfold Hid; simp [ha]
  clear ha hb
  go_enter Tryz.func77, Tryz.ntmps77
  go_wp2_with (first
    | (at_builtin; refine wpList_append_bytes _ rfl (.tmp 6) (.tmp 7) rfl (w.heap.size + 1 + 1) (some ⟨w.heap.size + 1 + 1, 0, none⟩) 1 1 [1] rfl rfl HL.out (some ⟨w.heap.size, 0, none⟩) 16 16 a HA.out rfl (HBa.out.src HA.out) (by omega) (by simp) ?_; intro A5 c5 w5 hon5 hbl5 hg5; have HON5 := Lib.hid hon5; have HBb5 := Lib.hid (HBb.out.below hbl5 (by omega)); have b5 := b0.trans (hbl5.mono (by omega)); clear hon5 hg5 hbl5)
    | (at_builtin; refine wpList_append_bytes _ rfl (.tmp 9) (.tmp 10) rfl (w.heap.size + 1 + 1) A5 17 c5 ([1] ++ a) HAL.out rfl HON5.out (some ⟨w.heap.size + 1, 0, none⟩) 16 16 b HB.out rfl (HBb5.out.src HB.out) (by omega) (by have := HBb5.out.lt; omega) ?_; intro A6 c6 w6 hon6 hbl6 hg6; have HON6 := Lib.hid hon6; have b6 := b5.trans (hbl6.mono (by omega)); clear hon6 hg6 hbl6))
  go_ret
  exact ⟨⟨A6, c6, rfl, HON6.out.le_ (by omega)⟩, b6⟩

set_option maxHeartbeats 4000000 in
set_option maxRecDepth 100000 in
theorem lawUntil_any (es : List Ent) (u : Int) (A : Option Addr) (c : Nat) (w : World) {n : Nat} (hn : es.length = n) (h : ER w A c es) :
    Calls Tryz.prog 32 #[.slice A n c, .int .i64 u] w fun e w' => e = .returned (.int .i64 (untilS es u)) ∧ Below w.heap.size w w' := by
  have hnl : (n : Int) ≤ 140737488351232 := by have := h.len; omega
  have HN := Lib.hid hn
  have H := Lib.hid h
  clear hn h
  go_enter Tryz.func32, Tryz.ntmps32
  go_wp2_with fail
  go_loopw [5] (fun vi wr => ∃ i : Nat, i ≤ n ∧ vi = .int .i64 (i : Int) ∧ Hid (untilS es u = untilS (es.drop i) u) ∧ Below w.heap.size w wr) (fun vi _ => n - (intOf vi).toNat)
  case atStart => exact ⟨0, by omega, rfl, by unfold Hid; rfl, Below.refl _ _⟩
  case round =>
    obtain ⟨i, hi, rfl, HV, hbel⟩ := hrel
    by_cases hlt : i < n
    · have hii : (i : Int) < n := by omega
      have hil : i < es.length := by have := HN.out; omega
      obtain ⟨b, off, rfl, hb, hc0, hc1⟩ := (H.out.below hbel).at_ hil
      have HST := Lib.hid (HV.out.trans (untilS_drop hil))
      obtain ⟨x, hx⟩ : ∃ x, es[i] = x := ⟨_, rfl⟩
      rw [hx] at hc0 hc1 HST
      obtain ⟨r, q⟩ := x
      simp only at hc0 hc1 HST
      clear hil hx HV
      by_cases hr : r = u
      · have s0 : (r == u) = true := by simp [hr]
        have HF : Hid (untilS es u = q) := by unfold Hid; rw [HST.out, if_pos hr]
        clear HST hr
        go_wp2_with fail
        all_goals (go_ret; exact ⟨by rw [HF.out]; rfl, hbel⟩)
      · have s0 : (r == u) = false := by simp [hr]
        have HF : Hid (untilS es u = untilS (es.drop (i + 1)) u) := by unfold Hid; rw [HST.out, if_neg hr]
        clear HST hr
        go_wp2_with fail
        go_roundw
        case rel => exact ⟨i + 1, by omega, by go_num, HF, hbel⟩
        case measure => simp [intOf]; omega
    · obtain rfl : i = n := by omega
      have hii : (i : Int) ≤ i := Int.le_refl _
      have HT : Hid (untilS es u = -1) := by unfold Hid; rw [HV.out, List.drop_of_length_le (by have := HN.out; omega)]; rfl
      go_wp2_with fail
      go_ret
      exact ⟨by rw [HT.out]; rfl, hbel⟩

end Go.Proofs.YtinpiodfpnbllaaGreatDoor

/- Lists of entries that the call owns: literals, append. -/
namespace Go.Proofs.YtinpiodfpnbllaaGreatDoor
open Go.RowKit
set_option linter.unusedVariables false

theorem OE.le_ {B B' : Nat} {w : World} {A : Option Addr} {c : Nat} {es : List Ent} (h : OE B w A c es) (hB : B' ≤ B) : OE B' w A c es :=
  ⟨h.1, h.2.elim Or.inl (fun ⟨g, cap, cur, hv, hg, r⟩ => Or.inr ⟨g, cap, cur, hv, Nat.le_trans hB hg, r⟩)⟩
theorem OE.lit (B : Nat) (w : World) (l : List Ent) (hB : B ≤ w.heap.size) (hl : l.length ≤ 1000000) {n : Nat} (hn : l.length = n) : OE B (w.alloc (.cells (cellsE l).toArray 98)) (some ⟨w.heap.size, 0, none⟩) n l := by
  subst hn
  exact World.ownsRow_lit (e := 98) (size := 2) w (cellsE l).toArray l.length hB (by simp only [maxLen]; omega) (by rw [List.size_toArray, cellsE_length])
theorem ER.src {w : World} {A : Option Addr} {c : Nat} {l : List Ent} (h : ER w A c l) {n : Nat} (hn : l.length = n) : Src w 2 A n (cellsE l) := by subst hn; exact Rd.src h
theorem src_litE {w : World} (l : List Ent) {n : Nat} (hn : l.length = n) : Src (w.alloc (.cells (cellsE l).toArray 98)) 2 (some ⟨w.heap.size, 0, none⟩) n (cellsE l) := by
  subst hn
  refine ⟨cellsE_length l, .inr ⟨_, rfl, fun j u hu => ?_⟩⟩
  rw [Addr.add_lit, Nat.zero_add]
  simpa using hu

theorem wpList_append_ents (w : World) {ops : Array Oper} {rest : List Oper} {o : Oper} {a : Act} {Q : Exit → Act → World → Prop} (hgd : o.guard = none) (s x : Operand)
    (ho : o.op = .call { callee := .builtin .append, args := #[s, x], argTypes := #[56, 56] })
    (B : Nat) (A : Option Addr) (n c : Nat) (l : List Ent) (hn : l.length = n) (hs : a.eval s = .slice A n c) (hown : OE B w A c l)
    (X : Option Addr) (m d : Nat) (news : List Ent) (hm : news.length = m) (hx : a.eval x = .slice X m d) (hsrc : Src w 2 X m (cellsE news))
    (hlen : n + m ≤ 1000000) (hB : B ≤ w.heap.size)
    (h : ∀ A' c' w', OE B w' A' c' (l ++ news) → Below B w w' → w.grownBy w' (Value.ownBlock (.slice A n c)) → wpList Tryz.prog ops Q rest (a.put o.dst (.slice A' (n + m) c')) w') : wpList Tryz.prog ops Q (o :: rest) a w := by
  obtain ⟨i0, hi, hz0, hz1, hz2⟩ := info_parts ent_info3
  subst hn hm
  refine wpList_append_src w hgd s x 56 ho B 98 i0 (.agg (cellsX (0, 0)).toArray) 2 16 Tryz.underlying56 hi hz0 hz1 hz2 rfl (by omega) A l.length c (cellsE l) hs hown X news.length d (cellsE news) hx hsrc (cells_oneE _)
    (by simp only [maxLen]; omega) (by omega) hB ?_
  intro A' c' w' h1 h2 h3
  refine h A' c' w' ?_ (grown_below (Below.refl _ _) hown h2 hB (Nat.le_refl _)) h2
  unfold OE
  rw [cellsE_append, List.length_append]
  exact h1
theorem wpList_append_keysE (w : World) {ops : Array Oper} {rest : List Oper} {o : Oper} {a : Act} {Q : Exit → Act → World → Prop} (hgd : o.guard = none) (s x : Operand)
    (ho : o.op = .call { callee := .builtin .append, args := #[s, x], argTypes := #[25, 25] })
    (B : Nat) (A : Option Addr) (n c : Nat) (ks : List (List UInt8)) (hn : ks.length = n) (hs : a.eval s = .slice A n c) (hown : OK16 B w A c ks)
    (X : Option Addr) (m d : Nat) (news : List (List UInt8)) (hm : news.length = m) (hx : a.eval x = .slice X m d) (hsrc : Src w 16 X m (cellsK news))
    (hlen : (n + m) * 16 ≤ 140737488355328) (hB : B ≤ w.heap.size)
    (h : ∀ A' c' w', OK16 B w' A' c' (ks ++ news) → Below B w w' → w.grownBy w' (Value.ownBlock (.slice A n c)) → wpList Tryz.prog ops Q rest (a.put o.dst (.slice A' (n + m) c')) w') : wpList Tryz.prog ops Q (o :: rest) a w := by
  obtain ⟨i0, hi, hz0, hz1, hz2⟩ := info_parts key_info3
  subst hn hm
  refine wpList_append_src w hgd s x 25 ho B 24 i0 (.agg (cellsB zeroK).toArray) 16 16 Tryz.underlying25 hi hz0 hz1 hz2 rfl (by omega) A ks.length c (cellsK ks) hs hown X news.length d (cellsK news) hx hsrc (cells_oneK news)
    (by simp only [maxLen]; omega) hlen hB ?_
  intro A' c' w' h1 h2 h3
  refine h A' c' w' ?_ (grown_below (Below.refl _ _) hown h2 hB (Nat.le_refl _)) h2
  unfold OK16
  rw [cellsK_append, List.length_append]
  exact h1

theorem endedE_isE {es : List Ent} (h : ∀ x ∈ es, isE x = true) : ∀ x ∈ endedE es, isE x = true := fun x hx => by
  rcases List.mem_cons.1 hx with rfl | hx
  · rfl
  · rcases List.mem_append.1 hx with hx | hx
    · exact h x hx
    · rw [List.mem_singleton.1 hx]; rfl
theorem leavesE_step {es : List Ent} {i : Nat} (h : i < (endedE es).length) : (leavesE es).take (i + 1) = (leavesE es).take i ++ [leafE (endedE es)[i]] := by
  have hl : i < (leavesE es).length := by unfold leavesE; simpa using h
  rw [List.take_succ_eq_append_getElem hl]
  congr 2
  simp [leavesE]
end Go.Proofs.YtinpiodfpnbllaaGreatDoor

/- Lists of entries that the call owns, written in place. -/
namespace Go.Proofs.YtinpiodfpnbllaaGreatDoor
open Go.RowKit
set_option linter.unusedVariables false

theorem cellsE_take (es : List Ent) (k : Nat) : (cellsE es).take (k * 2) = cellsE (es.take k) := by
  induction es generalizing k with
  | nil => simp [cellsE]
  | cons x es ih =>
    cases k with
    | zero => simp [cellsE]
    | succ k =>
      have e : ∀ es, cellsE (x :: es) = Value.int .i64 x.1 :: Value.int .i64 x.2 :: cellsE es := fun _ => rfl
      rw [List.take_succ_cons, e, e, show (k + 1) * 2 = k * 2 + 1 + 1 from by omega, List.take_succ_cons, List.take_succ_cons, ih]
theorem cellsE_set (es : List Ent) (i : Nat) (x : Ent) : cellsE (es.set i x) = ((cellsE es).set (i * 2) (.int .i64 x.1)).set (i * 2 + 1) (.int .i64 x.2) := by
  induction es generalizing i with
  | nil => simp [cellsE]
  | cons y es ih =>
    have e : ∀ (y : Ent) es, cellsE (y :: es) = Value.int .i64 y.1 :: Value.int .i64 y.2 :: cellsE es := fun _ _ => rfl
    cases i with
    | zero => rfl
    | succ i =>
      rw [List.set_cons_succ, e, e, ih, show (i + 1) * 2 = i * 2 + 1 + 1 from by omega]
      rfl
/-- A block of entries that the call owns, as it stands. -/
def EB (B : Nat) (w : World) (g c : Nat) (xs : List Ent) : Prop := B ≤ g ∧ ∃ cur, Blk w g 98 cur ∧ xs.length ≤ c ∧ c ≤ 9223372036854775807 ∧ cur.size = c * 2 ∧ cur.toList.take (xs.length * 2) = cellsE xs
section
variable {B : Nat} {w w' : World} {g c : Nat} {A : Option Addr} {xs es : List Ent}
theorem EB.of_own (h : OE B w A c es) (h0 : es ≠ []) : ∃ g, A = some ⟨g, 0, none⟩ ∧ EB B w g c es := by
  rcases h.2 with ⟨_, e0⟩ | ⟨g, cap, cur, e0, hb, hg, hn, hm, hs, ht⟩
  · exact absurd (List.eq_nil_of_length_eq_zero e0) h0
  · injection e0 with e1 _ e3
    subst e3
    exact ⟨g, e1, hb, cur, hg, hn, hm, hs, ht⟩
theorem EB.own (h : EB B w g c xs) : OE B w (some ⟨g, 0, none⟩) c xs := by
  obtain ⟨hb, cur, hg, hn, hm, hs, ht⟩ := h
  exact ⟨cellsE_length xs, .inr ⟨g, c, cur, rfl, hb, hg, hn, hm, hs, ht⟩⟩
theorem EB.lt (h : EB B w g c xs) : g < w.heap.size := by obtain ⟨_, cur, hg, _⟩ := h; exact hg.lt
theorem EB.len (h : EB B w g c xs) : xs.length ≤ c := by obtain ⟨_, cur, _, hn, _⟩ := h; exact hn
theorem EB.cap (h : EB B w g c xs) : c ≤ 9223372036854775807 := by obtain ⟨_, cur, _, _, hm, _⟩ := h; exact hm
theorem EB.below (h : EB B w g c xs) (hb : Below w.heap.size w w') : EB B w' g c xs := by
  obtain ⟨h1, cur, hg, h2⟩ := h
  exact ⟨h1, cur, hg.below' hb, h2⟩
theorem EB.drew (h : EB B w g c xs) : EB B w.drew g c xs := h
theorem EB.alloc (h : EB B w g c xs) (o : Obj) : EB B (w.alloc o) g c xs := h.below (alloc_bel w o)
theorem EB.take (h : EB B w g c xs) (k : Nat) (hk : k ≤ xs.length) : EB B w g c (xs.take k) := by
  obtain ⟨hb, cur, hg, hn, hm, hs, ht⟩ := h
  refine ⟨hb, cur, hg, by rw [List.length_take]; omega, hm, hs, ?_⟩
  rw [List.length_take, show min k xs.length = k from by omega, ← cellsE_take, ← ht, List.take_take, show min (k * 2) (xs.length * 2) = k * 2 from by omega]
theorem EB.get (h : EB B w g c xs) {j : Nat} {v : Value} (hv : (cellsE xs)[j]? = some v) : w.cell? ⟨g, j, none⟩ = some v := by
  obtain ⟨hb, cur, hg, hn, hm, hs, ht⟩ := h
  have hj : j < (cellsE xs).length := by
    rcases Nat.lt_or_ge j (cellsE xs).length with h' | h'
    · exact h'
    · rw [List.getElem?_eq_none h'] at hv; cases hv
  rw [cellsE_length] at hj
  rw [← ht, List.getElem?_take, if_pos hj] at hv
  rw [hg.cell, ← Array.getElem?_toList]
  exact hv
theorem EB.cell (h : EB B w g c xs) {i : Nat} (hi : i < xs.length) : w.cell? ⟨g, i * 2, none⟩ = some (.int .i64 xs[i].1) ∧ w.cell? ⟨g, i * 2 + 1, none⟩ = some (.int .i64 xs[i].2) :=
  ⟨h.get (cellsE_get xs i hi).1, h.get (cellsE_get xs i hi).2⟩
theorem EB.frozen (h : EB B w g c xs) (j : Nat) : w.frozen? ⟨g, j, none⟩ = false := by obtain ⟨_, cur, hg, _⟩ := h; exact hg.frozen j
theorem EB.isSome_ (h : EB B w g c xs) {j : Nat} (hj : j < c * 2) : (w.cell? ⟨g, j, none⟩).isSome = true := by
  obtain ⟨_, cur, hg, _, _, hs, _⟩ := h
  rw [hg.cell, Array.getElem?_eq_getElem (by omega)]; rfl
theorem EB.set_ (h : EB B w g c xs) (i : Nat) (x : Ent) : EB B ((w.setCell ⟨g, i * 2, none⟩ (.int .i64 x.1)).setCell ⟨g, i * 2 + 1, none⟩ (.int .i64 x.2)) g c (xs.set i x) := by
  obtain ⟨hb, cur, hg, hn, hm, hs, ht⟩ := h
  refine ⟨hb, _, (hg.set_ (i * 2) (.int .i64 x.1)).set_ (i * 2 + 1) (.int .i64 x.2), by simpa using hn, hm, by simpa using hs, ?_⟩
  rw [List.length_set, cellsE_set, ← ht]
  simp only [Array.toList_setIfInBounds, List.take_set]
theorem EB.far1 (h : EB B w g c xs) {o : Nat} (ho : xs.length * 2 ≤ o) (v : Value) : EB B (w.setCell ⟨g, o, none⟩ v) g c xs := by
  obtain ⟨hb, cur, hg, hn, hm, hs, ht⟩ := h
  refine ⟨hb, _, hg.set_ o v, hn, hm, by simpa using hs, ?_⟩
  rw [← ht]
  simp only [Array.toList_setIfInBounds]
  rw [List.take_set_of_le ho]
theorem EB.far (h : EB B w g c xs) : ∀ (vs : List Value) (o : Nat), xs.length * 2 ≤ o → EB B (w.setCells g o vs) g c xs := by
  intro vs
  induction vs generalizing w with
  | nil => intro o _; exact h
  | cons v vs ih => intro o ho; rw [World.setCells]; exact ih (h.far1 ho v) (o + 1) (by omega)
end
theorem below_setCells {B : Nat} {a w : World} {g : Nat} (hg : B ≤ g) : ∀ (vs : List Value) (o : Nat), Below B a w → Below B a (w.setCells g o vs) := by
  intro vs
  induction vs generalizing w with
  | nil => intro o h; exact h
  | cons v vs ih => intro o h; rw [World.setCells]; exact ih (o + 1) (h.setCell (p := ⟨g, o, none⟩) hg v)
theorem zeros_ent (n : Nat) : (Builtin.zeroCells #[Value.int .i64 0, Value.int .i64 0] n).toList = List.replicate (n * 2) (.int .i64 0) := by
  apply List.ext_getElem
  · simp [Builtin.zeroCells]
  · intro i h1 h2
    simp only [Builtin.zeroCells, Array.toList_map, Array.toList_range, List.getElem_map, List.getElem_range, List.getElem_replicate]
    rcases Nat.mod_two_eq_zero_or_one i with h | h
    · simp [h]
    · simp [h]
theorem run_clear_ents (w : World) (ty : TypeId) (B g n k c c0 : Nat) (xs : List Ent) (h : EB B w g c xs) (hn : 0 < n) (hk : k + n ≤ c) :
    (Builtin.clear_ #[56] ty #[.slice (some ⟨g, k * 2, none⟩) n c0]).run Tryz.prog w = .ok (.tuple #[]) (w.setCells g (k * 2) (List.replicate (n * 2) (.int .i64 0))) := by
  have hst := run_storeCells_cells (P := Tryz.prog) g (k * 2) (List.replicate (n * 2) (.int .i64 0)) 0 w (fun j hj => by rw [List.length_replicate] at hj; rw [Nat.add_zero]; exact h.isSome_ (by omega)) (fun j hj => h.frozen _) (by intro v hv; rw [List.eq_of_mem_replicate hv]; rfl)
  simp only [Nat.add_zero] at hst
  have hzc := zeros_ent n
  have hv := fun w => Tryz.zeroValue98 w
  obtain ⟨m, rfl⟩ : ∃ m, n = m + 1 := ⟨n - 1, by omega⟩
  simp only [Builtin.clear_]
  simp [run_underlying Tryz.underlying56, hv, Value.cells, hzc, hst]
theorem wpList_clear_ents (w : World) {ops : Array Oper} {rest : List Oper} {o : Oper} {a : Act} {Q : Exit → Act → World → Prop} (hgd : o.guard = none) (s : Operand)
    (ho : o.op = .call { callee := .builtin .clear, args := #[s], argTypes := #[56] }) (B g n k c c0 : Nat) (xs : List Ent) (hs : a.eval s = .slice (some ⟨g, k * 2, none⟩) n c0) (h : EB B w g c xs) (hn : 0 < n) (hk : k + n ≤ c)
    (hK : wpList Tryz.prog ops Q rest (a.put o.dst (.tuple #[])) (w.setCells g (k * 2) (List.replicate (n * 2) (.int .i64 0)))) : wpList Tryz.prog ops Q (o :: rest) a w := by
  refine wpList_plain hgd fun K hK' => ?_
  have hrun := run_clear_ents w o.type B g n k c c0 xs h hn hk
  unfold Oper.wp execOp
  simp only [ho, resolve, invoke, builtin, Sem.run_bind, Sem.run_pure, Result.andThen_ok, List.map_toArray, List.map_cons, List.map_nil, hs, hrun]
  exact hK' _ _ hK
theorem slice_ents_from (W : World) (g m c n o : Nat) (h : n < m) (hm : m ≤ c) :
    (Instr.slice 56 (.slice (some ⟨g, o, none⟩) m c) (some (.int .i64 (n : Int))) none none).run Tryz.prog W = .ok (.slice (some ⟨g, o + n * 2, none⟩) (m - n) (c - n)) W := by
  have e : Tryz.prog.elem 56 = 98 := by kernel_rfl
  rw [run_slice_l (P := Tryz.prog) (w := W) 56 (some ⟨g, o, none⟩) m c (by rw [e]; exact Tryz.underlying56) .i64 n (by omega) (by omega), e, Tryz.sizeOf98 W]
  have hne : ¬ c = n := by omega
  simp [Result.andThen, sliced, hne, Addr.add]
theorem slice_ents_to (W : World) (A : Option Addr) (m c n : Nat) (h : n ≤ c) :
    (Instr.slice 56 (.slice A m c) none (some (.int .i64 (n : Int))) none).run Tryz.prog W = .ok (.slice A n c) W := by
  have e : Tryz.prog.elem 56 = 98 := by kernel_rfl
  rw [run_slice_h (P := Tryz.prog) (w := W) 56 A m c (by rw [e]; exact Tryz.underlying56) .i64 n (by omega) (by omega), e, Tryz.sizeOf98 W]
  simp [Result.andThen, sliced]
  intro _
  rcases A with _ | ⟨b, o, s⟩
  · rfl
  · cases s <;> simp [Addr.add]
end Go.Proofs.YtinpiodfpnbllaaGreatDoor

/- Entries sorted: the comparison, and slices.SortFunc at it. -/
namespace Go.Proofs.YtinpiodfpnbllaaGreatDoor
open Go.RowKit Go.Sort Go.Shelf
set_option linter.unusedVariables false
set_option linter.unusedSimpArgs false

def orI (a b : Int) : Int := if a = 0 then b else a
/-- What the comparison of two entries is. -/
def cfE (x y : Ent) : Int := orI (Lib.compareInt x.1 y.1) (Lib.compareInt y.2 x.2)

theorem isNaN_any (x : Int) (w : World) : Calls Tryz.prog 145 #[.int .i64 x] w fun e w' => e = .returned (.bool false) ∧ w' = w := by
  go_enter Tryz.func145, Tryz.ntmps145
  go_wp2_with fail
  go_ret
  exact ⟨by simp, rfl⟩

set_option maxHeartbeats 2000000 in
theorem compare_any (x y : Int) (w : World) : Calls Tryz.prog 85 #[.int .i64 x, .int .i64 y] w fun e w' => e = .returned (.int .i64 (Lib.compareInt x y)) ∧ w' = w := by
  have hn := fun z W => isNaN_any z W
  rcases Int.lt_trichotomy x y with h | h | h
  · have HF : Hid (Lib.compareInt x y = -1) := by unfold Hid Lib.compareInt; rw [if_pos h]
    go_enter Tryz.func85, Tryz.ntmps85
    go_wp2_with (go_at_call 145; refine (isNaN_any _ _).mono ?_; rintro e w' ⟨rfl, rfl⟩)
    go_ret
    exact ⟨by rw [HF.out]; rfl, rfl⟩
  · have HF : Hid (Lib.compareInt x y = 0) := by unfold Hid Lib.compareInt; rw [if_neg (by omega), if_neg (by omega)]
    have h1 : ¬ x < y := by omega
    have h2 : ¬ y < x := by omega
    clear h
    go_enter Tryz.func85, Tryz.ntmps85
    go_wp2_with (go_at_call 145; refine (isNaN_any _ _).mono ?_; rintro e w' ⟨rfl, rfl⟩)
    go_ret
    exact ⟨by rw [HF.out]; rfl, rfl⟩
  · have HF : Hid (Lib.compareInt x y = 1) := by unfold Hid Lib.compareInt; rw [if_neg (by omega), if_pos (by omega)]
    have h1 : ¬ x < y := by omega
    go_enter Tryz.func85, Tryz.ntmps85
    go_wp2_with (go_at_call 145; refine (isNaN_any _ _).mono ?_; rintro e w' ⟨rfl, rfl⟩)
    go_ret
    exact ⟨by rw [HF.out]; rfl, rfl⟩

set_option maxHeartbeats 2000000 in
theorem or_any (a b : Int) (g : Nat) (w : World) (c0 : w.cell? ⟨g, 0, none⟩ = some (.int .i64 a)) (c1 : w.cell? ⟨g, 1, none⟩ = some (.int .i64 b)) :
    Calls Tryz.prog 84 #[.slice (some ⟨g, 0, none⟩) 2 2] w fun e w' => e = .returned (.int .i64 (orI a b)) ∧ w' = w := by
  have HO : Hid (∀ i : Nat, (i = 0 ∨ i = 1 ∧ a = 0 ∨ i = 2 ∧ a = 0 ∧ b = 0) → i ≤ 2) := fun i h => by omega
  have C0 := Lib.hid c0
  have C1 := Lib.hid c1
  clear c0 c1
  go_enter Tryz.func84, Tryz.ntmps84
  go_wp2_with fail
  go_loop [8] (fun i => ∃ k : Nat, i = .int .i64 (k : Int) ∧ Hid (k = 0 ∨ k = 1 ∧ a = 0 ∨ k = 2 ∧ a = 0 ∧ b = 0)) (fun i => 2 - (intOf i).toNat)
  case atStart => exact ⟨0, rfl, .inl rfl⟩
  case round =>
    obtain ⟨k, rfl, hk⟩ := hrel
    rcases hk.out with rfl | ⟨rfl, h0⟩ | ⟨rfl, h0, h1⟩
    · have c0 := C0.out
      by_cases ha : a = 0
      · have s0 : (a == 0) = true := by simpa using ha
        have HA := Lib.hid ha
        clear ha
        go_wp2_with fail
        go_round
        case rel => exact ⟨1, rfl, .inr (.inl ⟨rfl, HA.out⟩)⟩
        case measure => simp [intOf]
      · have s0 : (a == 0) = false := by simpa using ha
        have HF : Hid (orI a b = a) := by unfold Hid orI; rw [if_neg ha]
        clear ha
        go_wp2_with fail
        go_ret
        exact ⟨by rw [HF.out]; rfl, rfl⟩
    · have c1 := C1.out
      have H0 := Lib.hid h0
      clear h0
      by_cases hb : b = 0
      · have s0 : (b == 0) = true := by simpa using hb
        have HB := Lib.hid hb
        clear hb
        go_wp2_with fail
        go_round
        case rel => exact ⟨2, rfl, .inr (.inr ⟨rfl, H0.out, HB.out⟩)⟩
        case measure => simp [intOf]
      · have s0 : (b == 0) = false := by simpa using hb
        have HF : Hid (orI a b = b) := by unfold Hid orI; rw [if_pos H0.out]
        clear hb
        go_wp2_with fail
        go_ret
        exact ⟨by rw [HF.out]; rfl, rfl⟩
    · have HF : Hid (orI a b = 0) := by unfold Hid orI; rw [if_pos h0, h1]
      clear h0 h1
      go_wp2_with fail
      go_ret
      exact ⟨by rw [HF.out]; rfl, rfl⟩
end Go.Proofs.YtinpiodfpnbllaaGreatDoor

/- The closures of Merge and Prune. -/
namespace Go.Proofs.YtinpiodfpnbllaaGreatDoor
open Go.RowKit Go.Sort Go.Shelf
set_option linter.unusedVariables false
set_option linter.unusedSimpArgs false

theorem grown3 (W : World) (o0 o1 o2 : Obj) : ∃ q os', (((W.alloc o0).alloc o1).drew).alloc o2 = grow (W.drewN q) os' :=
  ⟨1, #[o0, o1, o2], by rw [alloc_eq_grow, alloc_eq_grow, alloc_eq_grow, drew_grow, drew_grow, grow_grow, grow_grow]; rfl⟩

set_option maxHeartbeats 4000000 in
set_option maxRecDepth 100000 in
theorem mergeCmp_any (x y : Ent) (W : World) : Calls Tryz.prog 83 #[.agg (cellsX x).toArray, .agg (cellsX y).toArray] W fun e w' => e = .returned (.int .i64 (cfE x y)) ∧ ∃ q os', w' = grow (W.drewN q) os' := by
  obtain ⟨x0, x1⟩ := x
  obtain ⟨y0, y1⟩ := y
  have HF : Hid (cfE (x0, x1) (y0, y1) = orI (Lib.compareInt x0 y0) (Lib.compareInt y1 x1)) := rfl
  simp only [cellsX]
  have HC0 : Hid (∀ W', Calls Tryz.prog 85 #[.int .i64 x0, .int .i64 y0] W' fun e w' => e = .returned (.int .i64 (Lib.compareInt x0 y0)) ∧ w' = W') := fun W' => compare_any x0 y0 W'
  have HC1 : Hid (∀ W', Calls Tryz.prog 85 #[.int .i64 y1, .int .i64 x1] W' fun e w' => e = .returned (.int .i64 (Lib.compareInt y1 x1)) ∧ w' = W') := fun W' => compare_any y1 x1 W'
  generalize cfE (x0, x1) (y0, y1) = z at HF ⊢
  generalize Lib.compareInt x0 y0 = p at *
  generalize Lib.compareInt y1 x1 = q at *
  have B0 := blk_b0 W #[.int .i64 x0, .int .i64 x1] 98 (.cells #[.int .i64 y0, .int .i64 y1] 98)
  have B1 := blk_b1 W (.cells #[.int .i64 x0, .int .i64 x1] 98) #[.int .i64 y0, .int .i64 y1] 98
  have HG := Lib.hid (grown3 W (.cells #[.int .i64 x0, .int .i64 x1] 98) (.cells #[.int .i64 y0, .int .i64 y1] 98) (.cells #[.int .i64 p, .int .i64 q] 3))
  go_enter Tryz.func83, Tryz.ntmps83
  go_wp2_with fail
  generalize (W.alloc (.cells #[.int .i64 x0, .int .i64 x1] 98)).alloc (.cells #[.int .i64 y0, .int .i64 y1] 98) = W2 at B0 B1 HG ⊢
  have k0 : W2.drew.cell? ⟨W.heap.size, 0, none⟩ = some (.int .i64 x0) := B0.drew.cell 0
  have k1 : W2.drew.cell? ⟨W.heap.size, 1, none⟩ = some (.int .i64 x1) := B0.drew.cell 1
  have k2 : W2.drew.cell? ⟨W.heap.size + 1, 0, none⟩ = some (.int .i64 y0) := B1.drew.cell 0
  have k3 : W2.drew.cell? ⟨W.heap.size + 1, 1, none⟩ = some (.int .i64 y1) := B1.drew.cell 1
  have B2 := (B0.drew.alloc (.cells #[.int .i64 p, .int .i64 q] 3))
  have B3 := (B1.drew.alloc (.cells #[.int .i64 p, .int .i64 q] 3))
  have N4 := Blk.new W2.drew 3 #[.int .i64 p, .int .i64 q]
  refine wp_region_noPanic ?_
  refine wp_region_held_drew (S := fun w' => (w'.cell? ⟨W.heap.size, 0, none⟩ = some (.int .i64 x0) ∧ w'.cell? ⟨W.heap.size, 1, none⟩ = some (.int .i64 x1)) ∧ (w'.cell? ⟨W.heap.size + 1, 0, none⟩ = some (.int .i64 y0) ∧ w'.cell? ⟨W.heap.size + 1, 1, none⟩ = some (.int .i64 y1))) (by kernel_rfl) ⟨⟨k0, k1⟩, k2, k3⟩ (fun hS => ?_)
  refine hd_take 0 (_) rfl rfl (by kernel_rfl) (by kernel_rfl) (by kernel_rfl) (fun _ _ _ h => h) (fun w hw => by go_simp <;> rfl) hS ?_
  refine hd_take 2 (_) rfl rfl (by kernel_rfl) (by kernel_rfl) (by kernel_rfl) (fun _ _ _ h => h) (fun w hw => by go_simp <;> rfl) hS ?_
  refine hd_take 5 (_) rfl rfl (by kernel_rfl) (by kernel_rfl) (by kernel_rfl) (fun _ _ _ h => h) (fun w hw => by go_simp <;> rfl) hS ?_
  refine hd_take 7 (_) rfl rfl (by kernel_rfl) (by kernel_rfl) (by kernel_rfl) (fun _ _ _ h => h) (fun w hw => by go_simp <;> rfl) hS ?_
  simp only [List.getElem_toArray, List.getElem_cons_succ, List.getElem_cons_zero, Act.put, List.setIfInBounds_toArray, List.set_cons_zero, List.set_cons_succ]
  refine hd_take 1 (.int .i64 x0) rfl rfl (by kernel_rfl) (by kernel_rfl) (by kernel_rfl) (fun _ _ _ h => h) (fun w hw => by have hx := hw.1.1; simp [go_sem, hx]) hS ?_
  refine hd_take 3 (.int .i64 y0) rfl rfl (by kernel_rfl) (by kernel_rfl) (by kernel_rfl) (fun _ _ _ h => h) (fun w hw => by have hx := hw.2.1; simp [go_sem, hx]) hS ?_
  refine hd_take 6 (.int .i64 y1) rfl rfl (by kernel_rfl) (by kernel_rfl) (by kernel_rfl) (fun _ _ _ h => h) (fun w hw => by have hx := hw.2.2; simp [go_sem, hx]) hS ?_
  refine hd_take 8 (.int .i64 x1) rfl rfl (by kernel_rfl) (by kernel_rfl) (by kernel_rfl) (fun _ _ _ h => h) (fun w hw => by have hx := hw.1.2; simp [go_sem, hx]) hS ?_
  simp only [List.getElem_toArray, List.getElem_cons_succ, List.getElem_cons_zero, Act.put, List.setIfInBounds_toArray, List.set_cons_zero, List.set_cons_succ]
  have HS4 := Lib.hid (show ((W2.drew.alloc (.cells #[.int .i64 p, .int .i64 q] 3)).cell? ⟨W.heap.size, 0, none⟩ = some (.int .i64 x0) ∧ (W2.drew.alloc (.cells #[.int .i64 p, .int .i64 q] 3)).cell? ⟨W.heap.size, 1, none⟩ = some (.int .i64 x1)) ∧ ((W2.drew.alloc (.cells #[.int .i64 p, .int .i64 q] 3)).cell? ⟨W.heap.size + 1, 0, none⟩ = some (.int .i64 y0) ∧ (W2.drew.alloc (.cells #[.int .i64 p, .int .i64 q] 3)).cell? ⟨W.heap.size + 1, 1, none⟩ = some (.int .i64 y1)) from ⟨⟨B2.cell 0, B2.cell 1⟩, B3.cell 0, B3.cell 1⟩)
  refine hd_calls 4 85 #[.int .i64 x0, .int .i64 y0] rfl rfl (by kernel_rfl) (by go_simp <;> rfl) ?_
  refine (HC0.out _).mono ?_
  rintro e w7 ⟨rfl, rfl⟩
  refine ⟨_, rfl, hS, ?_⟩
  simp only [List.getElem_toArray, List.getElem_cons_succ, List.getElem_cons_zero, Act.put, List.setIfInBounds_toArray, List.set_cons_zero, List.set_cons_succ]
  refine hd_calls 9 85 #[.int .i64 y1, .int .i64 x1] rfl rfl (by kernel_rfl) (by go_simp <;> rfl) ?_
  refine (HC1.out _).mono ?_
  rintro e w12 ⟨rfl, rfl⟩
  refine ⟨_, rfl, hS, ?_⟩
  simp only [List.getElem_toArray, List.getElem_cons_succ, List.getElem_cons_zero, Act.put, List.setIfInBounds_toArray, List.set_cons_zero, List.set_cons_succ]
  refine hd_sole 10 (by kernel_rfl) (op_run (.slice (some ⟨W2.heap.size, 0, none⟩) 2 2) (W2.drew.alloc (.cells #[.int .i64 p, .int .i64 q] 3)) rfl rfl (by simp [go_sem] <;> rfl) ⟨HS4.out, ?_⟩)
  simp only [List.getElem_toArray, List.getElem_cons_succ, List.getElem_cons_zero, Act.put, List.setIfInBounds_toArray, List.set_cons_zero, List.set_cons_succ]
  refine hd_calls 11 84 #[.slice (some ⟨W2.heap.size, 0, none⟩) 2 2] rfl rfl (by kernel_rfl) (by go_simp <;> rfl) ?_
  refine (or_any p q W2.heap.size _ (N4.cell 0) (N4.cell 1)).mono ?_
  rintro e w5 ⟨rfl, rfl⟩
  refine ⟨_, rfl, HS4.out, ?_⟩
  simp only [List.getElem_toArray, List.getElem_cons_succ, List.getElem_cons_zero, Act.put, List.setIfInBounds_toArray, List.set_cons_zero, List.set_cons_succ]
  refine hd_take 12 (_) rfl rfl (by kernel_rfl) (by kernel_rfl) (by kernel_rfl) (fun _ _ _ h => h) (fun w hw => by go_simp <;> rfl) HS4.out ?_
  simp only [List.getElem_toArray, List.getElem_cons_succ, List.getElem_cons_zero, Act.put, List.setIfInBounds_toArray, List.set_cons_zero, List.set_cons_succ]
  refine wpAnyH_done (by kernel_rfl) (NoPanic.normal ?_) _
  clear hS k0 k1 k2 k3
  go_wp2_with fail
  go_ret
  exact ⟨by rw [HF.out]; rfl, HG.out⟩

set_option maxHeartbeats 4000000 in
set_option maxRecDepth 100000 in
theorem mergeEq_any (x y : Ent) (W : World) : Calls Tryz.prog 87 #[.agg (cellsX x).toArray, .agg (cellsX y).toArray] W fun e w' => e = .returned (.bool (x.1 == y.1)) ∧ Below W.heap.size W w' := by
  obtain ⟨x0, x1⟩ := x
  obtain ⟨y0, y1⟩ := y
  simp only [cellsX]
  have b0 := alloc2_bel W (.cells #[.int .i64 x0, .int .i64 x1] 98) (.cells #[.int .i64 y0, .int .i64 y1] 98)
  go_enter Tryz.func87, Tryz.ntmps87
  go_wp2_with fail
  go_ret
  exact ⟨rfl, b0⟩

set_option maxHeartbeats 4000000 in
set_option maxRecDepth 100000 in
theorem pruneLess_any (x : Ent) (z : Int) (p : Addr) (W : World) (hp : W.cell? p = some (.int .i64 z)) : Calls Tryz.prog 102 #[.agg (cellsX x).toArray, .pointer (some p)] W fun e w' => e = .returned (.bool (decide (x.2 < z))) ∧ Below W.heap.size W w' := by
  obtain ⟨x0, x1⟩ := x
  simp only [cellsX]
  have b0 := alloc_bel W (.cells #[.int .i64 x0, .int .i64 x1] 98)
  have hlt := World.block_lt_of_cell? W _ hp
  have hc : (W.alloc (.cells #[.int .i64 x0, .int .i64 x1] 98)).cell? p = some (.int .i64 z) := (b0.cell hlt).trans hp
  clear hp hlt
  go_enter Tryz.func102, Tryz.ntmps102
  go_wp2_with fail
  go_ret
  exact ⟨rfl, b0⟩
end Go.Proofs.YtinpiodfpnbllaaGreatDoor

/- slices.SortFunc at entries. -/
namespace Go.Proofs.YtinpiodfpnbllaaGreatDoor
open Go.RowKit Go.Sort Go.Shelf
set_option linter.unusedVariables false

theorem cfE_lt (x y : Ent) : ltOf cfE x y = decide (x.1 < y.1 ∨ (x.1 = y.1 ∧ y.2 < x.2)) := by
  unfold ltOf cfE orI Lib.compareInt
  rcases Int.lt_trichotomy x.1 y.1 with h | h | h
  · simp [h]
  · rcases Int.lt_trichotomy y.2 x.2 with h' | h' | h'
    · simp [h, h']
    · simp [h, h']
    · have : ¬ y.2 < x.2 := by omega
      simp [h, this, h']
  · have h1 : ¬ x.1 < y.1 := by omega
    have h2 : ¬ x.1 = y.1 := by omega
    simp [h, h1, h2]
theorem swoE : SWO (ltOf cfE) where
  irrefl x := by rw [cfE_lt]; simp
  trans x y z h1 h2 := by rw [cfE_lt] at *; simp only [decide_eq_true_eq] at *; omega
  ntrans x y z h1 h2 := by rw [cfE_lt] at *; simp only [decide_eq_false_iff_not] at *; omega
theorem totE (x y : Ent) (h1 : ltOf cfE x y = false) (h2 : ltOf cfE y x = false) : x = y := by
  rw [cfE_lt] at h1 h2
  simp only [decide_eq_false_iff_not] at h1 h2
  obtain ⟨a, b⟩ := x
  obtain ⟨c, d⟩ := y
  simp only at h1 h2
  have e1 : a = c := by omega
  have e2 : b = d := by omega
  rw [e1, e2]
/-- The entries in the order of their receivers, of one receiver the later one first. -/
def sortE (es : List Ent) : List Ent := es.mergeSort fun x y => !(ltOf cfE) y x
theorem sortE_perm (es : List Ent) : (sortE es).Perm es := List.mergeSort_perm _ _
theorem sortE_length (es : List Ent) : (sortE es).length = es.length := (sortE_perm es).length_eq
theorem sortE_mem (es : List Ent) (x : Ent) : x ∈ sortE es ↔ x ∈ es := (sortE_perm es).mem_iff
theorem sortE_sorted (es : List Ent) : (sortE es).Pairwise leE := by
  have h := List.pairwise_mergeSort (le := fun x y => !(ltOf cfE) y x) (fun x y z h1 h2 => by
    simp only [cfE_lt, Bool.not_eq_true', decide_eq_false_iff_not] at *
    omega) (fun x y => by
    simp only [cfE_lt, Bool.or_eq_true, Bool.not_eq_true', decide_eq_false_iff_not]
    omega) es
  refine h.imp fun {x y} hxy => ?_
  simp only [cfE_lt, Bool.not_eq_true', decide_eq_false_iff_not] at hxy
  unfold leE
  omega

theorem flatK_ents (es : List Ent) : flatK cellsX 2 es.toArray = (cellsE es).toArray := by
  have hl := cellsE_length es
  refine ext_get! (by simp [hl]) fun t ht => ?_
  have ht' : t < es.length * 2 := by simpa using ht
  have hi : t / 2 < es.length := by omega
  rw [get_flatK _ _ _ _ (by simpa using ht')]
  have e1 : es.toArray[t / 2]! = es[t / 2] := by rw [getElem!_pos es.toArray (t / 2) (by simpa using hi)]; simp
  rw [e1]
  have hg := cellsE_get es (t / 2) hi
  have h3 : (cellsE es).toArray[t]! = (cellsE es)[t]'(by omega) := by rw [getElem!_pos (cellsE es).toArray t (by simp [hl]; omega)]; simp
  rw [h3]
  rcases Nat.mod_two_eq_zero_or_one t with h | h
  · have e : t / 2 * 2 = t := by omega
    rw [e, List.getElem?_eq_getElem (by omega)] at hg
    rw [Option.some.inj hg.1, h]; rfl
  · have e : t / 2 * 2 + 1 = t := by omega
    rw [e, List.getElem?_eq_getElem (show t < (cellsE es).length by omega)] at hg
    rw [Option.some.inj hg.2, h]; rfl
theorem EB.holds {B : Nat} {w : World} {g c : Nat} {es : List Ent} (h : EB B w g c es) : HoldsK cellsX 2 w g 0 es.toArray := by
  unfold HoldsK
  rw [flatK_ents]
  intro j hj
  have hj' : j < (cellsE es).length := by simpa using hj
  refine ⟨?_, by rw [Nat.zero_add]; exact h.frozen j⟩
  rw [Nat.zero_add, h.get (List.getElem?_eq_getElem hj'), getElem!_pos (cellsE es).toArray j (by simpa using hj')]
  simp
theorem EB.put {B : Nat} {w : World} {g c q : Nat} {es ys : List Ent} (h : EB B w g c es) (hl : ys.length = es.length) : EB B (putRowK cellsX 2 (Sort.ahead w q) g 0 ys.toArray) g c ys := by
  have hcl := cellsE_length ys
  obtain ⟨hb, cur, hg, hn, hm, hs, ht⟩ := h
  refine ⟨hb, putCells id 0 (cellsE ys).toArray cur, ?_, by omega, hm, by simpa [putCells] using hs, ?_⟩
  · unfold Blk at hg ⊢
    unfold putRowK
    rw [flatK_ents]
    simp [putRow, mapBlock, Sort.ahead, Array.getElem?_modify, hg, onCells]
  · apply List.ext_getElem?
    intro j
    rw [List.getElem?_take, Array.getElem?_toList]
    by_cases hj : j < ys.length * 2
    · have hjc : j < cur.size := by omega
      simp only [if_pos hj, putCells, Array.getElem?_mapIdx, Array.getElem?_eq_getElem hjc, Option.map_some]
      rw [if_pos (by simp [hcl]; omega), List.getElem?_eq_getElem (by omega)]
      simp [getElem!_pos, show j < (cellsE ys).length by omega]
    · rw [if_neg hj, List.getElem?_eq_none (by omega)]
theorem EB.grow_ {B : Nat} {w : World} {g c : Nat} {es : List Ent} (h : EB B w g c es) (os : Array Obj) : EB B (Sort.grow w os) g c es := by
  obtain ⟨hb, cur, hg, h2⟩ := h
  exact ⟨hb, cur, (heap_grow_old w os hg.lt).trans hg, h2⟩
theorem below_grow {B : Nat} {a w : World} (h : Below B a w) (hB : B ≤ w.heap.size) (os : Array Obj) : Below B a (Sort.grow w os) :=
  ⟨h.os, h.tape, h.output, by rw [size_grow]; have := h.size; omega, fun k hk => (heap_grow_old w os (by omega)).trans (h.block k hk)⟩

theorem sort_any {B : Nat} (es : List Ent) (g c : Nat) (w : World) {n : Nat} (hn : es.length = n) (h : EB B w g c es) (hB : B ≤ w.heap.size) (hs : n ≤ 1000000) :
    Calls Tryz.prog 82 #[.slice (some ⟨g, 0, none⟩) n c, .func (.func 83) #[] #[]] w fun e w' => e = .returned (.tuple #[]) ∧ EB B w' g c (sortE es) ∧ Below B w w' := by
  subst hn
  have eg : ∀ args w, (callFunc 83 args).run Tryz.prog w = .ok (.enter 83 args) w := enters_of Tryz.func83 (by kernel_rfl) rfl
  have hc : Go.Proofs.CmpLays Tryz.prog 83 #[] cellsX 2 cfE g 0 es.toArray.size w := fun m os dk _ x y => by
    have := mergeCmp_any x y (sortWorldK cellsX 2 w g 0 m dk os)
    simpa using this
  have hcon := AnyQ.slices_SortFunc_total Tryz.sortE 2 Tryz.isAgg98 Tryz.sizeOf98 cellsX (fun _ => rfl) (fun x v hv => by simp [cellsX] at hv; rcases hv with rfl | rfl <;> rfl) cfE swoE 83 #[] g 0 c es.toArray w eg hc h.holds h.lt (by simp; omega) totE
  refine (show Calls Tryz.prog 82 _ w _ from hcon).mono fun e w' ⟨he, q, os, hw⟩ => ⟨he, ?_⟩
  subst hw
  have h1 := (h.put (q := q) (ys := sortE es) (by rw [sortE_length])).grow_ os
  have hz : (putRowK cellsX 2 (Sort.ahead w q) g 0 (sortE es).toArray).heap.size = w.heap.size := by simp [putRowK, putRow, mapBlock, Sort.ahead]
  exact ⟨h1, below_grow (Lib.below_putRow (Below.refl _ _) h.1) (Nat.le_trans hB (Nat.le_of_eq hz.symm)) os⟩
theorem sort_none (A : Option Addr) (c : Nat) (fv : Value) (w : World) :
    Calls Tryz.prog 82 #[.slice A 0 c, fv] w fun e w' => e = .returned (.tuple #[]) ∧ w' = w :=
  AnyF.slices_SortFunc_none { Tryz.sortE with } A c fv w
end Go.Proofs.YtinpiodfpnbllaaGreatDoor

/- Lists of entries compacted and pruned step by step, in plain words. -/
namespace Go.Proofs.YtinpiodfpnbllaaGreatDoor
set_option linter.unusedVariables false

def lastR : Int → List Ent → Int
  | p, [] => p
  | _, z :: l => lastR z.1 l
theorem lastR_snoc (p : Int) (l : List Ent) (z : Ent) : lastR p (l ++ [z]) = z.1 := by
  induction l generalizing p with
  | nil => rfl
  | cons a l ih => exact ih a.1
theorem compGo_snoc (p : Int) (l : List Ent) (y : Ent) : compGo p (l ++ [y]) = compGo p l ++ (if y.1 = lastR p l then [] else [y]) := by
  induction l generalizing p with
  | nil => rfl
  | cons z l ih =>
    simp only [List.cons_append, compGo, lastR]
    by_cases h : z.1 = p
    · rw [if_pos h, if_pos h, ih p]; subst h; cases l <;> rfl
    · rw [if_neg h, if_neg h, ih z.1]; rfl
theorem compE_snoc (l : List Ent) (z y : Ent) : compE (l ++ [z] ++ [y]) = compE (l ++ [z]) ++ (if y.1 = z.1 then [] else [y]) := by
  cases l with
  | nil => simp [compE, compGo]
  | cons a l =>
    simp only [List.cons_append, compE]
    rw [compGo_snoc, lastR_snoc]
theorem take_last {es : List Ent} {i : Nat} (hi : i < es.length) : es.take (i + 1) = es.take i ++ [es[i]] := by rw [List.take_succ_eq_append_getElem hi]
theorem compE_step {es : List Ent} {i : Nat} (hi : i + 1 < es.length) : compE (es.take (i + 1 + 1)) = compE (es.take (i + 1)) ++ (if es[i + 1].1 = es[i].1 then [] else [es[i + 1]]) := by
  rw [take_last hi, take_last (show i < es.length by omega), compE_snoc]
theorem compE_same {es : List Ent} {i : Nat} (hi : i + 1 < es.length) (h : es[i + 1].1 = es[i].1) : compE (es.take (i + 1 + 1)) = compE (es.take (i + 1)) := by rw [compE_step hi, if_pos h, List.append_nil]
theorem compE_new {es : List Ent} {i : Nat} (hi : i + 1 < es.length) (h : ¬ es[i + 1].1 = es[i].1) : compE (es.take (i + 1 + 1)) = compE (es.take (i + 1)) ++ [es[i + 1]] := by rw [compE_step hi, if_neg h]
theorem compE_one {es : List Ent} (h : 1 ≤ es.length) : compE (es.take 1) = es.take 1 := by
  cases es with
  | nil => simp at h
  | cons x es => rfl
theorem compE_short {es : List Ent} (h : es.length < 2) : compE es = es := by
  match es, h with
  | [], _ => rfl
  | [x], _ => rfl
theorem pruneS_step {es : List Ent} {e : Int} {i : Nat} (hi : i < es.length) : pruneS (es.take (i + 1)) e = pruneS (es.take i) e ++ (if e ≤ es[i].2 then [es[i]] else []) := by
  rw [take_last hi]
  unfold pruneS
  rw [List.filter_append]
  congr 1
  by_cases h : e ≤ es[i].2
  · rw [if_pos h]; simp [h]
  · rw [if_neg h]; simp [h]
/-- What stands in the block: what was kept, then the rest as it was. -/
def partE (pre es : List Ent) : List Ent := pre ++ es.drop pre.length
theorem partE_length {pre es : List Ent} (h : pre.length ≤ es.length) : (partE pre es).length = es.length := by
  unfold partE; rw [List.length_append, List.length_drop]; omega
theorem partE_get {pre es : List Ent} {j : Nat} (h : pre.length ≤ j) (hj : j < es.length) : (partE pre es)[j]? = some es[j] := by
  unfold partE
  rw [List.getElem?_append_right h, List.getElem?_drop, show pre.length + (j - pre.length) = j from by omega, List.getElem?_eq_getElem hj]
theorem partE_set {pre es : List Ent} (x : Ent) (h : pre.length < es.length) : (partE pre es).set pre.length x = partE (pre ++ [x]) es := by
  unfold partE
  rw [List.set_append_right _ _ (Nat.le_refl _), Nat.sub_self, List.drop_eq_getElem_cons h, List.set_cons_zero, List.length_append, List.append_assoc]
  rfl
theorem partE_take {pre es : List Ent} : (partE pre es).take pre.length = pre := by unfold partE; rw [List.take_left']; rfl
theorem partE_take_self {es : List Ent} {k : Nat} (h : k ≤ es.length) : partE (es.take k) es = es := by
  unfold partE
  rw [List.length_take, show min k es.length = k from by omega, List.take_append_drop]
end Go.Proofs.YtinpiodfpnbllaaGreatDoor

/- slices.CompactFunc at entries. -/
namespace Go.Proofs.YtinpiodfpnbllaaGreatDoor
open Go.RowKit
set_option linter.unusedVariables false
set_option linter.unusedSimpArgs false

theorem EB.at_ {B : Nat} {w : World} {g c : Nat} {pre es : List Ent} (h : EB B w g c (partE pre es)) {j : Nat} (hp : pre.length ≤ j) (hj : j < es.length) : w.cell? ⟨g, j * 2, none⟩ = some (.int .i64 es[j].1) ∧ w.cell? ⟨g, j * 2 + 1, none⟩ = some (.int .i64 es[j].2) := by
  have hg := partE_get (pre := pre) hp hj
  have hjl : j < (partE pre es).length := by rw [partE_length (by omega)]; exact hj
  rw [List.getElem?_eq_getElem hjl] at hg
  have := h.cell hjl
  rw [Option.some.inj hg] at this
  exact this
theorem EB.put1 {B : Nat} {w : World} {g c : Nat} {pre es : List Ent} (h : EB B w g c (partE pre es)) (x : Ent) {K : Nat} (hK : pre.length = K) (hl : K < es.length) : EB B ((w.setCell ⟨g, K * 2, none⟩ (.int .i64 x.1)).setCell ⟨g, K * 2 + 1, none⟩ (.int .i64 x.2)) g c (partE (pre ++ [x]) es) := by
  subst hK
  rw [← partE_set x hl]
  exact h.set_ pre.length x
theorem EB.place {B : Nat} {w : World} {g c : Nat} {xs : List Ent} (h : EB B w g c xs) {K : Nat} (hK : K < c) : ∃ u v, w.cell? ⟨g, K * 2, none⟩ = some u ∧ w.cell? ⟨g, K * 2 + 1, none⟩ = some v := by
  have h1 := h.isSome_ (j := K * 2) (by omega)
  have h2 := h.isSome_ (j := K * 2 + 1) (by omega)
  obtain ⟨u, hu⟩ := Option.isSome_iff_exists.1 h1
  obtain ⟨v, hv⟩ := Option.isSome_iff_exists.1 h2
  exact ⟨u, v, hu, hv⟩
theorem slice_ents_from0 (W : World) (g m c n : Nat) (h : n < m) (hm : m ≤ c) :
    (Instr.slice 56 (.slice (some ⟨g, 0, none⟩) m c) (some (.int .i64 (n : Int))) none none).run Tryz.prog W = .ok (.slice (some ⟨g, n * 2, none⟩) (m - n) (c - n)) W := by
  have := slice_ents_from W g m c n 0 h hm
  rwa [Nat.zero_add] at this

set_option maxHeartbeats 4000000 in
set_option maxRecDepth 100000 in
theorem compact_loop {B : Nat} (es : List Ent) (g c : Nat) (w : World) {n : Nat} (hn : es.length = n) (h2 : 2 ≤ n) (h : EB B w g c es) (hB : B ≤ w.heap.size) (hs : n ≤ 1000000) :
    Calls Tryz.prog 86 #[.slice (some ⟨g, 0, none⟩) n c, .func (.func 87) #[] #[]] w fun e w' => e = .returned (.slice (some ⟨g, 0, none⟩) (compE es).length c) ∧ EB B w' g c (compE es) ∧ Below B w w' := by
  have hnl : (n : Int) ≤ 1000000 := by omega
  have hni : (2 : Int) ≤ n := by omega
  have hlen := h.len
  have hcap := h.cap
  have hcl : (c : Int) ≤ 9223372036854775807 := by omega
  have hcn : (n : Int) ≤ (c : Int) := by omega
  have hcn' : n ≤ c := by omega
  have HEQ : Hid (∀ (x0 x1 y0 y1 : Int) W, Calls Tryz.prog 87 #[.agg #[.int .i64 x0, .int .i64 x1], .agg #[.int .i64 y0, .int .i64 y1]] W fun e w' => e = .returned (.bool (x0 == y0)) ∧ Below W.heap.size W w') := fun x0 x1 y0 y1 W => mergeEq_any (x0, x1) (y0, y1) W
  have H := Lib.hid h
  have HN := Lib.hid hn
  have HC1 : Hid (compE (es.take 1) = es.take 1) := compE_one (by omega)
  have HBB := Lib.hid hB
  clear h hn hlen hcap hB
  go_enter Tryz.func86, Tryz.ntmps86
  go_wp2_with fail
  go_loopw [5] (fun vi wr => ∃ k : Nat, 1 ≤ k ∧ k ≤ n ∧ vi = .int .i64 (k : Int) ∧ Hid (compE (es.take k) = es.take k) ∧ Hid (EB B wr g c es) ∧ Below B w wr) (fun vi _ => n - (intOf vi).toNat)
  case atStart => exact ⟨1, by omega, by omega, rfl, HC1.out, H.out, Below.refl _ _⟩
  case round =>
    obtain ⟨k, hk1, hk2, rfl, HV, HE, hbel⟩ := hrel
    by_cases hlt : k < n
    · have hki : (k : Int) < n := by omega
      have hk0 : (0 : Int) ≤ (k : Int) := by omega
      obtain ⟨m, hm⟩ : ∃ m, m + 1 = k := ⟨k - 1, by omega⟩
      have hmi : (m : Int) < n := by omega
      have e1 : IntKind.i64.wrap ((k : Int) - 1) = (m : Int) := by rw [IntKind.wrap_i64]; omega
      have hkl : k < es.length := by have := HN.out; omega
      have hml : m < es.length := by omega
      obtain ⟨x, hx⟩ : ∃ x, es[k] = x := ⟨_, rfl⟩
      obtain ⟨y, hy⟩ : ∃ y, es[m] = y := ⟨_, rfl⟩
      have HS : Hid (∀ W, EB B W g c es → (W.cell? ⟨g, k * 2, none⟩ = some (.int .i64 x.1) ∧ W.cell? ⟨g, k * 2 + 1, none⟩ = some (.int .i64 x.2)) ∧ (W.cell? ⟨g, m * 2, none⟩ = some (.int .i64 y.1) ∧ W.cell? ⟨g, m * 2 + 1, none⟩ = some (.int .i64 y.2))) := fun W hW => by
        have a := hW.cell hkl
        have b := hW.cell hml
        rw [hx] at a
        rw [hy] at b
        exact ⟨a, b⟩
      have HSAME : Hid (x.1 = y.1 → compE (es.take (k + 1)) = es.take k) := fun he => by
        subst hm
        rw [compE_same (by omega) (by rw [hx, hy]; exact he)]
        exact HV.out
      have HNEW : Hid (¬ x.1 = y.1 → compE (es.take (k + 1)) = es.take (k + 1)) := fun he => by
        subst hm
        rw [compE_new (by omega) (by rw [hx, hy]; exact he), HV.out]
        rw [take_last hkl]
      have HM := Lib.hid hm
      obtain ⟨x0, x1⟩ := x
      obtain ⟨y0, y1⟩ := y
      simp only at HS HSAME HNEW
      clear hx hy hkl hml hm
      go_wp2_with fail
      have hE0 := Lib.hid (HE.out.drew)
      refine wp_region_noPanic ?_
      refine wp_region_held_drew (S := fun w' => (w'.cell? ⟨g, k * 2, none⟩ = some (.int .i64 x0) ∧ w'.cell? ⟨g, k * 2 + 1, none⟩ = some (.int .i64 x1)) ∧ (w'.cell? ⟨g, m * 2, none⟩ = some (.int .i64 y0) ∧ w'.cell? ⟨g, m * 2 + 1, none⟩ = some (.int .i64 y1))) (by kernel_rfl) (HS.out _ hE0.out) (fun hS => ?_)
      refine hd_take 0 (_) rfl rfl (by kernel_rfl) (by kernel_rfl) (by kernel_rfl) (fun _ _ _ h => h) (fun w hw => by go_simp <;> rfl) hS ?_
      refine hd_take 1 (_) rfl rfl (by kernel_rfl) (by kernel_rfl) (by kernel_rfl) (fun _ _ _ h => h) (fun w hw => by go_simp <;> rfl) hS ?_
      refine hd_take 2 (_) rfl rfl (by kernel_rfl) (by kernel_rfl) (by kernel_rfl) (fun _ _ _ h => h) (fun w hw => by go_simp <;> rfl) hS ?_
      refine hd_take 5 (_) rfl rfl (by kernel_rfl) (by kernel_rfl) (by kernel_rfl) (fun _ _ _ h => h) (fun w hw => by go_simp <;> rfl) hS ?_
      refine hd_take 6 (_) rfl rfl (by kernel_rfl) (by kernel_rfl) (by kernel_rfl) (fun _ _ _ h => h) (fun w hw => by go_simp <;> rfl) hS ?_
      simp only [List.getElem_toArray, List.getElem_cons_succ, List.getElem_cons_zero, Act.put, List.setIfInBounds_toArray, List.set_cons_zero, List.set_cons_succ]
      refine hd_take 3 (_) rfl rfl (by kernel_rfl) (by kernel_rfl) (by kernel_rfl) (fun _ _ _ h => h) (fun w hw => by go_simp <;> rfl) hS ?_
      refine hd_take 7 (.int .i64 (m : Int)) rfl rfl (by kernel_rfl) (by kernel_rfl) (by kernel_rfl) (fun _ _ _ h => h) (fun w hw => by simp [go_sem, e1]) hS ?_
      simp only [List.getElem_toArray, List.getElem_cons_succ, List.getElem_cons_zero, Act.put, List.setIfInBounds_toArray, List.set_cons_zero, List.set_cons_succ]
      refine hd_take 4 (.agg #[.int .i64 x0, .int .i64 x1]) rfl rfl (by kernel_rfl) (by kernel_rfl) (by kernel_rfl) (fun _ _ _ h => h) (fun w hw => by have hx := hw.1.1; have hy := hw.1.2; simp [go_sem, hx, hy]) hS ?_
      refine hd_take 8 (_) rfl rfl (by kernel_rfl) (by kernel_rfl) (by kernel_rfl) (fun _ _ _ h => h) (fun w hw => by go_simp <;> rfl) hS ?_
      simp only [List.getElem_toArray, List.getElem_cons_succ, List.getElem_cons_zero, Act.put, List.setIfInBounds_toArray, List.set_cons_zero, List.set_cons_succ]
      refine hd_take 9 (.agg #[.int .i64 y0, .int .i64 y1]) rfl rfl (by kernel_rfl) (by kernel_rfl) (by kernel_rfl) (fun _ _ _ h => h) (fun w hw => by have hx := hw.2.1; have hy := hw.2.2; simp [go_sem, hx, hy]) hS ?_
      simp only [List.getElem_toArray, List.getElem_cons_succ, List.getElem_cons_zero, Act.put, List.setIfInBounds_toArray, List.set_cons_zero, List.set_cons_succ]
      refine hd_calls 10 87 #[.agg #[.int .i64 x0, .int .i64 x1], .agg #[.int .i64 y0, .int .i64 y1]] rfl rfl (by kernel_rfl) (by go_simp <;> rfl) ?_
      refine (HEQ.out x0 x1 y0 y1 _).mono ?_
      rintro e w3 ⟨rfl, hb3⟩
      have hE3 := Lib.hid (hE0.out.below hb3)
      have hB3 := Lib.hid (show Below B w w3 from hbel.drew.trans (hb3.mono (Nat.le_trans HBB.out hbel.drew.size)))
      refine ⟨_, rfl, HS.out _ hE3.out, ?_⟩
      simp only [List.getElem_toArray, List.getElem_cons_succ, List.getElem_cons_zero, Act.put, List.setIfInBounds_toArray, List.set_cons_zero, List.set_cons_succ]
      refine wpAnyH_done (by kernel_rfl) (NoPanic.normal ?_) _
      clear hS hb3 hbel
      by_cases hxy : x0 = y0
      · have s0 : (x0 == y0) = true := by simpa using hxy
        have HV2 : Hid (compE (es.take (k + 1)) = es.take k) := HSAME.out hxy
        have hsl := fun W => slice_ents_from0 W g n c k hlt (by omega)
        obtain ⟨r, hr⟩ : ∃ r, n = k + r := ⟨n - k, by omega⟩
        have hr1 : 1 ≤ r := by omega
        have hri : (1 : Int) ≤ r := by omega
        have hrl : (r : Int) ≤ 1000000 := by omega
        have hrc : (r : Int) ≤ ((c - k : Nat) : Int) := by omega
        have hrs : n - k = r := by omega
        rw [hrs] at hsl
        have HR := Lib.hid hr
        clear HSAME HNEW hxy hr hrs e1
        go_wp2_with fail
        have hks : (es.take k).length = k := by rw [List.length_take]; have := HN.out; omega
        have HPS : Hid (EB B w3 g c (partE (compE (es.take (k + 1))) es)) := by unfold Hid; rw [HV2.out, partE_take_self (by have := HN.out; omega)]; exact hE3.out
        have HPL : Hid ((compE (es.take (k + 1))).length = k) := by unfold Hid; rw [HV2.out, hks]
        clear hks
        go_loopw [5, 7] (fun vk vi wr => ∃ (K t : Nat), 1 ≤ t ∧ t ≤ r ∧ K + 1 ≤ k + t ∧ vk = .int .i64 (K : Int) ∧ vi = .int .i64 (t : Int) ∧ Hid ((compE (es.take (k + t))).length = K) ∧ Hid (EB B wr g c (partE (compE (es.take (k + t))) es)) ∧ Below B w wr) (fun _ vi _ => r - (intOf vi).toNat)
        case atStart => exact ⟨k, 1, by omega, hr1, by omega, rfl, rfl, HPL.out, HPS.out, hB3.out⟩
        case round =>
          obtain ⟨K, t, ht1, ht2, hKt, rfl, rfl, HL, HP, hbl⟩ := hrel
          by_cases htr : t < r
          · have hti : (t : Int) < r := by omega
            obtain ⟨u, hu⟩ : ∃ u, u + 1 = t := ⟨t - 1, by omega⟩
            have hui : (u : Int) < r := by omega
            have e1 : IntKind.i64.wrap ((t : Int) - 1) = (u : Int) := by rw [IntKind.wrap_i64]; omega
            have hjl : k + t < es.length := by have := HN.out; have := HR.out; omega
            have hml : k + u < es.length := by omega
            obtain ⟨x, hx⟩ : ∃ x, es[k + t] = x := ⟨_, rfl⟩
            obtain ⟨y, hy⟩ : ∃ y, es[k + u] = y := ⟨_, rfl⟩
            have HS2 : Hid (∀ W, EB B W g c (partE (compE (es.take (k + t))) es) → (W.cell? ⟨g, k * 2 + t * 2, none⟩ = some (.int .i64 x.1) ∧ W.cell? ⟨g, k * 2 + t * 2 + 1, none⟩ = some (.int .i64 x.2)) ∧ (W.cell? ⟨g, k * 2 + u * 2, none⟩ = some (.int .i64 y.1) ∧ W.cell? ⟨g, k * 2 + u * 2 + 1, none⟩ = some (.int .i64 y.2))) := fun W hW => by
              have a := hW.at_ (j := k + t) (by rw [HL.out]; omega) hjl
              have b := hW.at_ (j := k + u) (by rw [HL.out]; omega) hml
              rw [hx, Nat.add_mul] at a
              rw [hy, Nat.add_mul] at b
              exact ⟨a, b⟩
            have HSAME : Hid (x.1 = y.1 → compE (es.take (k + (t + 1))) = compE (es.take (k + t))) := fun he => by
              subst hu
              exact compE_same (i := k + u) (by omega) (by have e : es[k + u + 1] = _ := hx; rw [e, hy]; exact he)
            have HNEW : Hid (¬ x.1 = y.1 → compE (es.take (k + (t + 1))) = compE (es.take (k + t)) ++ [x]) := fun he => by
              subst hu
              rw [← hx]
              exact compE_new (i := k + u) (by omega) (by have e : es[k + u + 1] = _ := hx; rw [e, hy]; exact he)
            have hKl : K < es.length := by omega
            have hKn : (K : Int) < n := by have := HN.out; omega
            have hK0 : (0 : Int) ≤ (K : Int) := by omega
            have hKc : K < c := by have := HN.out; omega
            have HKL := Lib.hid hKl
            have HU := Lib.hid hu
            obtain ⟨x0, x1⟩ := x
            obtain ⟨y0, y1⟩ := y
            simp only at HS2 HSAME HNEW
            clear hx hy hjl hml hu hKl
            go_wp2_with fail
            have hE5 := Lib.hid (HP.out.drew)
            refine wp_region_noPanic ?_
            refine wp_region_held_drew (S := fun w' => (w'.cell? ⟨g, k * 2 + t * 2, none⟩ = some (.int .i64 x0) ∧ w'.cell? ⟨g, k * 2 + t * 2 + 1, none⟩ = some (.int .i64 x1)) ∧ (w'.cell? ⟨g, k * 2 + u * 2, none⟩ = some (.int .i64 y0) ∧ w'.cell? ⟨g, k * 2 + u * 2 + 1, none⟩ = some (.int .i64 y1))) (by kernel_rfl) (HS2.out _ hE5.out) (fun hS => ?_)
            refine hd_take 0 (_) rfl rfl (by kernel_rfl) (by kernel_rfl) (by kernel_rfl) (fun _ _ _ h => h) (fun w hw => by go_simp <;> rfl) hS ?_
            refine hd_take 1 (_) rfl rfl (by kernel_rfl) (by kernel_rfl) (by kernel_rfl) (fun _ _ _ h => h) (fun w hw => by go_simp <;> rfl) hS ?_
            refine hd_take 2 (_) rfl rfl (by kernel_rfl) (by kernel_rfl) (by kernel_rfl) (fun _ _ _ h => h) (fun w hw => by go_simp <;> rfl) hS ?_
            refine hd_take 5 (_) rfl rfl (by kernel_rfl) (by kernel_rfl) (by kernel_rfl) (fun _ _ _ h => h) (fun w hw => by go_simp <;> rfl) hS ?_
            refine hd_take 6 (_) rfl rfl (by kernel_rfl) (by kernel_rfl) (by kernel_rfl) (fun _ _ _ h => h) (fun w hw => by go_simp <;> rfl) hS ?_
            simp only [List.getElem_toArray, List.getElem_cons_succ, List.getElem_cons_zero, Act.put, List.setIfInBounds_toArray, List.set_cons_zero, List.set_cons_succ]
            refine hd_take 3 (_) rfl rfl (by kernel_rfl) (by kernel_rfl) (by kernel_rfl) (fun _ _ _ h => h) (fun w hw => by go_simp <;> rfl) hS ?_
            refine hd_take 7 (.int .i64 (u : Int)) rfl rfl (by kernel_rfl) (by kernel_rfl) (by kernel_rfl) (fun _ _ _ h => h) (fun w hw => by simp [go_sem, e1]) hS ?_
            simp only [List.getElem_toArray, List.getElem_cons_succ, List.getElem_cons_zero, Act.put, List.setIfInBounds_toArray, List.set_cons_zero, List.set_cons_succ]
            refine hd_take 4 (.agg #[.int .i64 x0, .int .i64 x1]) rfl rfl (by kernel_rfl) (by kernel_rfl) (by kernel_rfl) (fun _ _ _ h => h) (fun w hw => by have hx := hw.1.1; have hy := hw.1.2; simp [go_sem, hx, hy]) hS ?_
            refine hd_take 8 (_) rfl rfl (by kernel_rfl) (by kernel_rfl) (by kernel_rfl) (fun _ _ _ h => h) (fun w hw => by go_simp <;> rfl) hS ?_
            simp only [List.getElem_toArray, List.getElem_cons_succ, List.getElem_cons_zero, Act.put, List.setIfInBounds_toArray, List.set_cons_zero, List.set_cons_succ]
            refine hd_take 9 (.agg #[.int .i64 y0, .int .i64 y1]) rfl rfl (by kernel_rfl) (by kernel_rfl) (by kernel_rfl) (fun _ _ _ h => h) (fun w hw => by have hx := hw.2.1; have hy := hw.2.2; simp [go_sem, hx, hy]) hS ?_
            simp only [List.getElem_toArray, List.getElem_cons_succ, List.getElem_cons_zero, Act.put, List.setIfInBounds_toArray, List.set_cons_zero, List.set_cons_succ]
            refine hd_calls 10 87 #[.agg #[.int .i64 x0, .int .i64 x1], .agg #[.int .i64 y0, .int .i64 y1]] rfl rfl (by kernel_rfl) (by go_simp <;> rfl) ?_
            refine (HEQ.out x0 x1 y0 y1 _).mono ?_
            rintro e w6 ⟨rfl, hb6⟩
            have hE6 := Lib.hid (hE5.out.below hb6)
            have hB6 := Lib.hid (show Below B w w6 from hbl.drew.trans (hb6.mono (Nat.le_trans HBB.out hbl.drew.size)))
            refine ⟨_, rfl, HS2.out _ hE6.out, ?_⟩
            simp only [List.getElem_toArray, List.getElem_cons_succ, List.getElem_cons_zero, Act.put, List.setIfInBounds_toArray, List.set_cons_zero, List.set_cons_succ]
            by_cases hxy : x0 = y0
            · have s0 : (x0 == y0) = true := by simpa using hxy
              refine hd_take 11 (.bool false) rfl rfl (by kernel_rfl) (by kernel_rfl) (by kernel_rfl) (fun _ _ _ h => h) (fun w _ => by simp [go_sem, s0]) (HS2.out _ hE6.out) ?_
              simp only [List.getElem_toArray, List.getElem_cons_succ, List.getElem_cons_zero, Act.put, List.setIfInBounds_toArray, List.set_cons_zero, List.set_cons_succ]
              refine wpAnyH_done (by kernel_rfl) (NoPanic.normal ?_) _
              clear hS hb6 hbl e1
              have HQ := HSAME.out hxy
              have HL2 : Hid ((compE (es.take (k + (t + 1)))).length = K) := by unfold Hid; rw [HQ]; exact HL.out
              have HP2 : Hid (EB B w6 g c (partE (compE (es.take (k + (t + 1)))) es)) := by unfold Hid; rw [HQ]; exact hE6.out
              clear HQ HSAME HNEW hxy
              go_wp2_with fail
              go_roundw
              case rel => exact ⟨K, t + 1, by omega, by omega, by omega, rfl, by go_num, HL2.out, HP2.out, hB6.out⟩
              case measure => simp [intOf]; omega
            · have s0 : (x0 == y0) = false := by simpa using hxy
              refine hd_take 11 (.bool true) rfl rfl (by kernel_rfl) (by kernel_rfl) (by kernel_rfl) (fun _ _ _ h => h) (fun w _ => by simp [go_sem, s0]) (HS2.out _ hE6.out) ?_
              simp only [List.getElem_toArray, List.getElem_cons_succ, List.getElem_cons_zero, Act.put, List.setIfInBounds_toArray, List.set_cons_zero, List.set_cons_succ]
              refine wpAnyH_done (by kernel_rfl) (NoPanic.normal ?_) _
              clear hS hb6 hbl e1
              have HQ := HNEW.out hxy
              have HL2 : Hid ((compE (es.take (k + (t + 1)))).length = K + 1) := by unfold Hid; rw [HQ, List.length_append, HL.out]; rfl
              have HP2 : Hid (EB B ((w6.setCell ⟨g, K * 2, none⟩ (.int .i64 x0)).setCell ⟨g, K * 2 + 1, none⟩ (.int .i64 x1)) g c (partE (compE (es.take (k + (t + 1)))) es)) := by unfold Hid; rw [HQ]; exact hE6.out.put1 (x0, x1) HL.out HKL.out
              obtain ⟨⟨c0, c1⟩, -⟩ := HS2.out _ hE6.out
              obtain ⟨p0, p1, d0, d1⟩ := hE6.out.place hKc
              have f0 := hE6.out.frozen (K * 2)
              have f1 := hE6.out.frozen (K * 2 + 1)
              have hB7 := Lib.hid ((hB6.out.setCell (p := ⟨g, K * 2, none⟩) (HP.out.1) (.int .i64 x0)).setCell (p := ⟨g, K * 2 + 1, none⟩) (HP.out.1) (.int .i64 x1))
              clear HQ HSAME HNEW hxy
              go_wp2_with fail
              go_roundw
              case rel => exact ⟨K + 1, t + 1, by omega, by omega, by omega, by go_num, by go_num, HL2.out, HP2.out, hB7.out⟩
              case measure => simp [intOf]; omega
          · obtain rfl : t = r := by omega
            have hKn : K < n := by have := HR.out; omega
            have hKi : (K : Int) < n := by omega
            have hsl2 := fun W => slice_ents_from0 W g n c K hKn hcn'
            have hsl3 := fun W => slice_ents_to W (some ⟨g, 0, none⟩) n c K (by omega)
            have HALL : Hid (compE (es.take (k + t)) = compE es) := by unfold Hid; rw [← HR.out, List.take_of_length_le (by have := HN.out; omega)]
            rw [HALL.out] at HP HL
            have HF := Lib.hid (HP.out.take K (by have := HN.out; rw [partE_length (by rw [HL.out]; omega)]; omega))
            have e2 : (partE (compE es) es).take K = compE es := by rw [← HL.out]; exact partE_take
            rw [e2] at HF
            have HFF := Lib.hid (HF.out.far (List.replicate ((n - K) * 2) (.int .i64 0)) (K * 2) (by rw [HL.out]; omega))
            have HBF := Lib.hid (below_setCells HP.out.1 (List.replicate ((n - K) * 2) (.int .i64 0)) (K * 2) hbl)
            have hpos : 0 < n - K := by omega
            have hsum : K + (n - K) ≤ c := by omega
            clear e2 hbl
            go_wp2_with (refine wpList_clear_ents _ rfl (.tmp 61) rfl B g (n - K) K c (c - K) (compE es) rfl HF.out hpos hsum ?_)
            go_ret
            exact ⟨by rw [HL.out]; rfl, HFF.out, HBF.out⟩
      · have s0 : (x0 == y0) = false := by simpa using hxy
        have HV2 := Lib.hid (HNEW.out hxy)
        clear HSAME HNEW hxy e1
        go_wp2_with fail
        go_roundw
        case rel => exact ⟨k + 1, by omega, by omega, by go_num, HV2.out, hE3.out, hB3.out⟩
        case measure => simp [intOf]; omega
    · obtain rfl : k = n := by omega
      have hki : (k : Int) ≤ k := Int.le_refl _
      have HF : Hid (compE es = es) := by
        have := HV.out
        rwa [List.take_of_length_le (by have := HN.out; omega)] at this
      have HG := HE.out
      go_wp2_with fail
      go_ret
      rw [HF.out]
      exact ⟨by rw [HN.out]; rfl, HG, hbel⟩
end Go.Proofs.YtinpiodfpnbllaaGreatDoor
