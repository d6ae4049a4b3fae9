/-
  Lemmas and contracts, joined.
-/
import Derived.Deep.RegionHeld3
import Derived.Shelf.Abstract
import Derived.Test.YtchnaimpmegbkaaGreatDoorTfTp1
import Derived.Test.YtchnaimpmegbkaaGreatDoorTfTc1
import Derived.Test.YtchnaimpmegbkaaGreatDoorTfTl2
import Derived.Test.YtchnaimpmegbkaaGreatDoorTfTn4
set_option linter.unusedSimpArgs false
set_option linter.unusedVariables false
set_option linter.unnecessarySimpa false
/- Words, weights and names asked of a code of steps: the program's. -/
namespace Go.Proofs.YtchnaimpmegbkaaGreatDoor
open Go.RowKit
set_option linter.unusedVariables false
set_option linter.unusedSimpArgs false

/-- What is handed back: a row and an error. -/
def WordErr (r : List UInt8 × Int) (e : Ending) (w' : World) : Prop := ∃ A c, e = .returned (.tuple #[.slice A r.1.length c, .int .i64 r.2]) ∧ BR w' A c r.1
def IntsErr (r : List Int × Int) (e : Ending) (w' : World) : Prop := ∃ A c, e = .returned (.tuple #[.slice A r.1.length c, .int .i64 r.2]) ∧ IR w' A c r.1
/-- The row is the call's own. -/
def WordOwn (B : Nat) (r : List UInt8 × Int) (e : Ending) (w' : World) : Prop := ∃ A c, e = .returned (.tuple #[.slice A r.1.length c, .int .i64 r.2]) ∧ OB B w' A c r.1
theorem wordOwn_nil (B : Nat) (w : World) (x : Int) {r : List UInt8 × Int} (h : r = ([], x)) : WordOwn B r (.returned (.tuple #[.slice none 0 0, .int .i64 x])) w := by
  subst h
  exact ⟨none, 0, rfl, OB.nil' _ _⟩
def IntsOwn (B : Nat) (r : List Int × Int) (e : Ending) (w' : World) : Prop := ∃ A c, e = .returned (.tuple #[.slice A r.1.length c, .int .i64 r.2]) ∧ OI B w' A c r.1
theorem intsOwn_nil (B : Nat) (w : World) (x : Int) {r : List Int × Int} (h : r = ([], x)) : IntsOwn B r (.returned (.tuple #[.slice none 0 0, .int .i64 x])) w := by
  subst h
  exact ⟨none, 0, rfl, OI.nil B w⟩
def StV.wordR (s : StV) (x : Int) : List UInt8 × Int := if s.ok = false then ([], 70) else if x < 0 ∨ s.u ≤ x then ([], 2) else (s.word x.toNat, 0)
def StV.nmsR (s : StV) (y : List UInt8) : List Int × Int := if s.ok = false then ([], 70) else if copyB y s.n = false then ([], 71) else (s.nms y, 0)
theorem StV.word_len (s : StV) (x : Nat) : (s.word x).length = s.n := stepWord_length _ _ _
theorem StV.nms_small {s : StV} (hok : s.ok = true) (y : List UInt8) : (s.nms y).length ≤ 16 ∧ ∀ x ∈ s.nms y, 0 ≤ x ∧ x ≤ 16 := by
  obtain ⟨⟨q1, q2, q3, q4⟩, _⟩ := StV.parts hok
  refine ⟨Nat.le_trans (namesF_length _ _) (by omega), fun x hx => ?_⟩
  obtain ⟨u, hu, _, rfl⟩ := namesF_mem.1 hx
  omega
theorem cp_nat {y : List UInt8} {n : Nat} (h : copyB y n = true) : y.length = n := by
  unfold copyB at h
  simp only [Bool.and_eq_true, decide_eq_true_eq] at h
  exact h.1

set_option maxHeartbeats 4000000 in
set_option maxRecDepth 1000000 in
theorem StepWord_own (s : StV) (x : Int) (w : World) (h : StOK w s) (hx1 : -9223372036854775808 ≤ x) (hx2 : x ≤ 9223372036854775807) :
    Calls Tryz.prog 15 #[.agg s.cs.toArray, .int .i64 x] w fun e w' => WordOwn w.heap.size (s.wordR x) e w' ∧ Below w.heap.size w w' := by
  have hk := h.k16
  obtain ⟨W0, hW0⟩ : ∃ W : World, W = w.alloc (.cells s.cs.toArray 29) := ⟨_, rfl⟩
  have b0 : Hid (Below w.heap.size w W0) := by unfold Hid; rw [hW0]; exact alloc_below _ _
  have x0 : Hid (Blk W0 w.heap.size 29 s.cs.toArray) := by unfold Hid; rw [hW0]; exact Blk.new w _ _
  have HW0 := Lib.hid hW0
  have HIN := Lib.hid (StV.info (s := s) hk)
  cases hok : s.ok with
  | false =>
    have HSO : Hid (∀ W, Below w.heap.size w W → Calls Tryz.prog 40 #[.agg s.cs.toArray] W fun e w' => e = .returned (.tuple #[.pointer none, .int .i64 70]) ∧ Below W.heap.size W w') := fun W hW => stepsOf_bad s W (h.below hW) hok
    have HR : Hid (s.wordR x = ([], 70)) := by unfold Hid StV.wordR; rw [if_pos hok]
    generalize s.wordR x = r at HR ⊢
    generalize s.cs.toArray = cs at *
    clear h hok hk hW0
    go_enter Tryz.func15, Tryz.ntmps15
    go_wp2_with (first
      | (rw [← HW0.out])
      | (refine wpList_load_row rfl 29 (.tmp 2) rfl (w.heap.size) rfl 29 cs (0, 0) _ x0.out Tryz.underlying29 rfl HIN.out ?_)
      | (go_at_call 40; (with_reducible refine (HSO.out _ b0.out).mono ?_); rintro e w1 ⟨rfl, hb⟩; have D1 := Lib.hid (bel_on b0.out hb); clear hb))
    go_ret2
    exact ⟨wordOwn_nil _ _ _ HR.out, D1.out⟩
  | true =>
    have HSO : Hid (∀ W, Below w.heap.size w W → Calls Tryz.prog 40 #[.agg s.cs.toArray] W fun e w' => (∃ g ga, e = .returned (.tuple #[.pointer (some ⟨g, 0, none⟩), .int .i64 0]) ∧ Laid w' s g ga) ∧ Below W.heap.size W w') := fun W hW => stepsOf_good s W (h.below hW) hok
    have HC0 : Hid (∀ W, Below W0.heap.size W0 W → W.cell? ⟨w.heap.size, 0, none⟩ = some (.int .i64 s.u)) := fun W hW => (StV.cells hk (x0.out.below' hW)).1
    by_cases hin : 0 ≤ x ∧ x < s.u
    · obtain ⟨hx0, hxu⟩ := hin
      obtain ⟨n, rfl⟩ : ∃ n : Nat, x = (n : Int) := ⟨x.toNat, by omega⟩
      have HWD : Hid (∀ g ga W, Laid W s g ga → Calls Tryz.prog 41 #[.pointer (some ⟨g, 0, none⟩), .int .i64 (n : Int)] W fun e w' => e = .returned (.slice (some ⟨W.heap.size, 0, none⟩) s.n s.n) ∧ Blk w' W.heap.size 5 (cellsB (s.word n)).toArray ∧ Below W.heap.size W w') := fun g ga W hL => word_any s g ga n W hk hok hL hxu
      have HR : Hid (s.wordR (n : Int) = (s.word n, 0)) := by
        unfold Hid StV.wordR
        rw [if_neg (by rw [hok]; simp), if_neg (by omega), Int.toNat_natCast]
      have HWL : Hid ((s.word n).length = s.n) := s.word_len n
      have HNL : Hid (s.n ≤ 1000000) := by have := (StV.n_le hok).2.1; unfold Hid; omega
      have hnx : ¬ ((n : Int) < 0) := by omega
      have hnu : ¬ (s.u ≤ (n : Int)) := by omega
      have HF : Hid (∀ r e w', r = (s.word n, (0 : Int)) → (∃ g, w.heap.size ≤ g ∧ e = .returned (.tuple #[.slice (some ⟨g, 0, none⟩) s.n s.n, .int .i64 0]) ∧ Blk w' g 5 (cellsB (s.word n)).toArray) → WordOwn w.heap.size r e w') := fun r e w' hr ⟨g, hg, he, hB⟩ => by
        subst hr
        have hb := Blk.ob hB hg rfl rfl (by rw [HWL.out]; exact HNL.out)
        exact ⟨some ⟨g, 0, none⟩, (s.word n).length, by rw [he, HWL.out], hb⟩
      generalize s.wordR (n : Int) = r at HR ⊢
      generalize s.n = nn at HWD HF
      generalize s.u = u at *
      generalize s.cs.toArray = cs at *
      clear h hok hk hW0  HWL HNL
      go_enter Tryz.func15, Tryz.ntmps15
      go_wp2_with (first
        | (rw [← HW0.out])
        | (refine wpList_load_row rfl 29 (.tmp 2) rfl (w.heap.size) rfl 29 cs (0, 0) _ x0.out Tryz.underlying29 rfl HIN.out ?_)
        | (go_at_call 40; (with_reducible refine (HSO.out _ b0.out).mono ?_); rintro e w1 ⟨⟨g, ga, rfl, hL⟩, hb⟩; have D1 := Lib.hid (bel_on b0.out hb); have L1 := Lib.hid hL; have c0 := HC0.out _ hb; clear hb hL)
        | (go_at_call 41; (with_reducible refine (HWD.out _ _ _ L1.out).mono ?_); rintro e w2 ⟨rfl, hB, hb⟩; have D2 := Lib.hid (bel_on D1.out hb); have B2 := Lib.hid hB; clear hb hB))
      all_goals first | omega | (go_ret2; exact ⟨HF.out _ _ _ HR.out ⟨_, D1.out.size, rfl, B2.out⟩, D2.out⟩)
    · have HR : Hid (s.wordR x = ([], 2)) := by
        unfold Hid StV.wordR
        rw [if_neg (by rw [hok]; simp), if_pos (by omega)]
      generalize s.wordR x = r at HR ⊢
      generalize s.u = u at *
      generalize s.cs.toArray = cs at *
      clear h hok hk hW0 
      go_enter Tryz.func15, Tryz.ntmps15
      go_wp2_with (first
        | (rw [← HW0.out])
        | (refine wpList_load_row rfl 29 (.tmp 2) rfl (w.heap.size) rfl 29 cs (0, 0) _ x0.out Tryz.underlying29 rfl HIN.out ?_)
        | (go_at_call 40; (with_reducible refine (HSO.out _ b0.out).mono ?_); rintro e w1 ⟨⟨g, ga, rfl, hL⟩, hb⟩; have D1 := Lib.hid (bel_on b0.out hb); have c0 := HC0.out _ hb; clear hb hL))
      all_goals first | omega | (go_ret2; exact ⟨wordOwn_nil _ _ _ HR.out, D1.out⟩)
theorem wordErr_own {B : Nat} {r : List UInt8 × Int} {e : Ending} {w' : World} (hl : r.1.length ≤ 1000000) (h : WordOwn B r e w') : WordErr r e w' := by
  obtain ⟨A, c, he, hb⟩ := h
  exact ⟨A, c, he, hb.br (by omega)⟩
theorem StV.wordR_len (s : StV) (x : Int) : (s.wordR x).1.length ≤ 1000000 := by
  unfold StV.wordR
  split
  · simp
  · rename_i hok
    split
    · simp
    · have := (StV.n_le (by simpa using hok)).2.1
      rw [StV.word_len]; omega
theorem StepWord_any (s : StV) (x : Int) (w : World) (h : StOK w s) (hx1 : -9223372036854775808 ≤ x) (hx2 : x ≤ 9223372036854775807) :
    Calls Tryz.prog 15 #[.agg s.cs.toArray, .int .i64 x] w fun e w' => WordErr (s.wordR x) e w' ∧ Below w.heap.size w w' :=
  (StepWord_own s x w h hx1 hx2).mono fun e w' ⟨h1, h2⟩ => ⟨wordErr_own (s.wordR_len x) h1, h2⟩

theorem clo_names (p : Value) (w : World) : Calls Tryz.prog 48 #[p] w fun e w' => e = .returned (.func (.func 49) #[p] #[]) ∧ w' = w := by
  go_enter Tryz.func48, Tryz.ntmps48
  go_wp2_with fail
  go_ret
  exact ⟨rfl, rfl⟩
set_option maxHeartbeats 4000000 in
set_option maxRecDepth 1000000 in
theorem asked_names_own (s : StV) (Y : Option Addr) (c : Nat) (y : List UInt8) (w : World) (h : StOK w s) {n0 : Nat} (hy : y.length = n0) (hY : BR w Y c y) :
    Calls Tryz.prog 47 #[.agg s.cs.toArray, .slice Y n0 c, .func (.func 48) #[] #[]] w fun e w' => IntsOwn w.heap.size (s.nmsR y) e w' ∧ Below w.heap.size w w' := by
  have hk := h.k16
  obtain ⟨W0, hW0⟩ : ∃ W : World, W = w.alloc (.cells s.cs.toArray 29) := ⟨_, rfl⟩
  have b0 : Hid (Below w.heap.size w W0) := by unfold Hid; rw [hW0]; exact alloc_below _ _
  have x0 : Hid (Blk W0 w.heap.size 29 s.cs.toArray) := by unfold Hid; rw [hW0]; exact Blk.new w _ _
  have HW0 := Lib.hid hW0
  have HIN := Lib.hid (StV.info (s := s) hk)
  cases hok : s.ok with
  | false =>
    have HSO : Hid (∀ W, Below w.heap.size w W → Calls Tryz.prog 40 #[.agg s.cs.toArray] W fun e w' => e = .returned (.tuple #[.pointer none, .int .i64 70]) ∧ Below W.heap.size W w') := fun W hW => stepsOf_bad s W (h.below hW) hok
    have HR : Hid (s.nmsR y = ([], 70)) := by unfold Hid StV.nmsR; rw [if_pos hok]
    generalize s.nmsR y = r at HR ⊢
    generalize s.cs.toArray = cs at *
    clear h hok hk hW0 hy hY
    go_enter Tryz.func47, Tryz.ntmps47
    go_wp2_with (first
      | (rw [← HW0.out])
      | (refine wpList_load_row rfl 29 (.tmp 3) rfl (w.heap.size) rfl 29 cs (0, 0) _ x0.out Tryz.underlying29 rfl HIN.out ?_)
      | (go_at_call 40; (with_reducible refine (HSO.out _ b0.out).mono ?_); rintro e w1 ⟨rfl, hb⟩; have D1 := Lib.hid (bel_on b0.out hb); clear hb))
    go_ret2
    exact ⟨intsOwn_nil _ _ _ HR.out, D1.out⟩
  | true =>
    have HSO : Hid (∀ W, Below w.heap.size w W → Calls Tryz.prog 40 #[.agg s.cs.toArray] W fun e w' => (∃ g ga, e = .returned (.tuple #[.pointer (some ⟨g, 0, none⟩), .int .i64 0]) ∧ Laid w' s g ga) ∧ Below W.heap.size W w') := fun W hW => stepsOf_good s W (h.below hW) hok
    have HLC : Hid (∀ W g ga, Laid W s g ga → W.cell? ⟨g, 20, none⟩ = some (.slice (some ⟨ga, 0, none⟩) s.n s.n)) := fun W g ga hL => (hL.cells hk).2.2
    have HLB : Hid (∀ W W' g ga, Laid W s g ga → Below W.heap.size W W' → Laid W' s g ga) := fun W W' g ga hL hb => hL.below hb
    have hnl := (StV.n_le hok).2.1
    have HCP : Hid (∀ W, Below w.heap.size w W → Calls Tryz.prog 45 #[.slice Y n0 c, .int .i64 (s.n : Int)] W fun e w' => e = .returned (.bool (copyB y s.n)) ∧ Below W.heap.size W w') := fun W hW => isCopy_any Y c y s.n W hy (hY.below hW) (by omega)
    cases hc : copyB y s.n with
    | false =>
      have HR : Hid (s.nmsR y = ([], 71)) := by unfold Hid StV.nmsR; rw [if_neg (by rw [hok]; simp), if_pos hc]
      rw [hc] at HCP
      generalize s.nmsR y = r at HR ⊢
      generalize s.n = n at *
      generalize s.cs.toArray = cs at *
      clear h hok hk hW0 hy hY  hc hnl
      go_enter Tryz.func47, Tryz.ntmps47
      go_wp2_with (first
        | (rw [← HW0.out])
        | (refine wpList_load_row rfl 29 (.tmp 3) rfl (w.heap.size) rfl 29 cs (0, 0) _ x0.out Tryz.underlying29 rfl HIN.out ?_)
        | (go_at_call 40; (with_reducible refine (HSO.out _ b0.out).mono ?_); rintro e w1 ⟨⟨g, ga, rfl, hL⟩, hb⟩; have D1 := Lib.hid (bel_on b0.out hb); have c20 := HLC.out _ _ _ hL; clear hb hL)
        | (go_at_call 45; (with_reducible refine (HCP.out _ D1.out).mono ?_); rintro e w2 ⟨rfl, hb⟩; have D2 := Lib.hid (bel_on D1.out hb); clear hb))
      go_ret2
      exact ⟨intsOwn_nil _ _ _ HR.out, D2.out⟩
    | true =>
      have HR : Hid (s.nmsR y = (s.nms y, 0)) := by unfold Hid StV.nmsR; rw [if_neg (by rw [hok]; simp), if_neg (by rw [hc]; simp)]
      have HYW : Hid (∀ W, Below w.heap.size w W → BR W Y c y) := fun W hW => hY.below hW
      have HSW : Hid (∀ W, Below w.heap.size w W → StOK W s) := fun W hW => h.below hW
      have HM : Hid (∀ g ga W, Laid W s g ga → StOK W s → BR W Y c y → Calls Tryz.prog 49 #[.pointer (some ⟨g, 0, none⟩), .slice Y s.n c] W fun e w' => (∃ A c', e = .returned (.slice A (s.nms y).length c') ∧ OI W.heap.size w' A c' (s.nms y)) ∧ Below W.heap.size W w') := fun g ga W hL hS hB => names_any s g ga Y c y W hS hok hL (cp_nat hc) rfl hB
      rw [hc] at HCP
      have hyn := cp_nat hc
      have HF : Hid (∀ r e w', r = (s.nms y, (0 : Int)) → (∃ A c', e = .returned (.tuple #[.slice A (s.nms y).length c', .int .i64 0]) ∧ OI w.heap.size w' A c' (s.nms y)) → IntsOwn w.heap.size r e w') := fun r e w' hr ⟨A, c', he, hB⟩ => by
        subst hr
        exact ⟨A, c', he, hB⟩
      obtain rfl : n0 = s.n := by omega
      generalize s.nmsR y = r at HR ⊢
      generalize s.n = n at *
      generalize s.cs.toArray = cs at *
      generalize s.nms y = vl at HR HM HF
      clear h hok hk hW0 hy hY  hc hnl hyn
      go_enter Tryz.func47, Tryz.ntmps47
      go_wp2_with (first
        | (rw [← HW0.out])
        | (refine wpList_load_row rfl 29 (.tmp 3) rfl (w.heap.size) rfl 29 cs (0, 0) _ x0.out Tryz.underlying29 rfl HIN.out ?_)
        | (go_at_call 40; (with_reducible refine (HSO.out _ b0.out).mono ?_); rintro e w1 ⟨⟨g, ga, rfl, hL⟩, hb⟩; have D1 := Lib.hid (bel_on b0.out hb); have c20 := HLC.out _ _ _ hL; have L1 := Lib.hid hL; clear hb hL)
        | (go_at_call 45; (with_reducible refine (HCP.out _ D1.out).mono ?_); rintro e w2 ⟨rfl, hb⟩; have D2 := Lib.hid (bel_on D1.out hb); have L2 := Lib.hid (HLB.out _ _ _ _ L1.out hb); clear hb)
        | (go_at_call 48; (with_reducible refine (clo_names _ _).mono ?_); rintro e w3 ⟨rfl, rfl⟩)
        | (go_at_call 49; (with_reducible refine (HM.out _ _ _ L2.out (HSW.out _ D2.out) (HYW.out _ D2.out)).mono ?_); rintro e w4 ⟨⟨A, c', rfl, hI⟩, hb⟩; have D4 := Lib.hid (bel_on D2.out hb); have I4 := Lib.hid (hI.le_ D2.out.size); clear hb hI))
      go_ret2
      exact ⟨HF.out _ _ _ HR.out ⟨_, _, rfl, I4.out⟩, D4.out⟩

set_option maxHeartbeats 4000000 in
set_option maxRecDepth 1000000 in
theorem TraceSteps_own (s : StV) (Y : Option Addr) (c : Nat) (y : List UInt8) (w : World) (h : StOK w s) {n0 : Nat} (hy : y.length = n0) (hY : BR w Y c y) :
    Calls Tryz.prog 18 #[.agg s.cs.toArray, .slice Y n0 c] w fun e w' => IntsOwn w.heap.size (s.nmsR y) e w' ∧ Below w.heap.size w w' := by
  have hk := h.k16
  obtain ⟨W0, hW0⟩ : ∃ W : World, W = w.alloc (.cells s.cs.toArray 29) := ⟨_, rfl⟩
  have b0 : Hid (Below w.heap.size w W0) := by unfold Hid; rw [hW0]; exact alloc_below _ _
  have x0 : Hid (Blk W0 w.heap.size 29 s.cs.toArray) := by unfold Hid; rw [hW0]; exact Blk.new w _ _
  have HW0 := Lib.hid hW0
  have HIN := Lib.hid (StV.info (s := s) hk)
  have HAS : Hid (∀ W, Below w.heap.size w W → Calls Tryz.prog 47 #[.agg s.cs.toArray, .slice Y n0 c, .func (.func 48) #[] #[]] W fun e w' => IntsOwn W.heap.size (s.nmsR y) e w' ∧ Below W.heap.size W w') := fun W hW => asked_names_own s Y c y W (h.below hW) hy (hY.below hW)
  have HF : Hid (∀ r e w', (∃ A c, e = .returned (.tuple #[.slice A (r : List Int × Int).1.length c, .int .i64 r.2]) ∧ OI w.heap.size w' A c r.1) → IntsOwn w.heap.size r e w') := fun r e w' h => h
  generalize s.nmsR y = r at HAS ⊢
  generalize s.cs.toArray = cs at *
  clear h hk hW0 hy hY
  go_enter Tryz.func18, Tryz.ntmps18
  go_wp2_with (first
    | (rw [← HW0.out])
    | (refine wpList_load_row rfl 29 (.tmp 2) rfl (w.heap.size) rfl 29 cs (0, 0) _ x0.out Tryz.underlying29 rfl HIN.out ?_)
    | (go_at_call 47; (with_reducible refine (HAS.out _ b0.out).mono ?_); rintro e w1 ⟨⟨A, c', rfl, hI⟩, hb⟩; have D1 := Lib.hid (bel_on b0.out hb); have I1 := Lib.hid (hI.le_ b0.out.size); clear hb hI))
  go_ret2
  exact ⟨HF.out _ _ _ ⟨A, c', rfl, I1.out⟩, D1.out⟩

theorem StV.nmsR_small (s : StV) (y : List UInt8) : (s.nmsR y).1.length ≤ 16 ∧ ∀ x ∈ (s.nmsR y).1, 0 ≤ x ∧ x ≤ 16 := by
  unfold StV.nmsR
  split
  · simp
  · rename_i hok
    split
    · simp
    · exact StV.nms_small (by simpa using hok) y
theorem TraceSteps_any (s : StV) (Y : Option Addr) (c : Nat) (y : List UInt8) (w : World) (h : StOK w s) {n0 : Nat} (hy : y.length = n0) (hY : BR w Y c y) :
    Calls Tryz.prog 18 #[.agg s.cs.toArray, .slice Y n0 c] w fun e w' => IntsErr (s.nmsR y) e w' ∧ Below w.heap.size w w' :=
  (TraceSteps_own s Y c y w h hy hY).mono fun e w' ⟨⟨A, c', he, ho⟩, h2⟩ => by
    obtain ⟨s1, s2⟩ := s.nmsR_small y
    exact ⟨⟨A, c', he, ho.ir (by omega) (fun x hx => by have := s2 x hx; omega)⟩, h2⟩
end Go.Proofs.YtchnaimpmegbkaaGreatDoor

/- The reference's Number. -/
namespace Go.Proofs.YtchnaimpmegbkaaGreatDoor
open Go.RowKit
set_option linter.unusedVariables false
attribute [local go_sem] run_storeCells_key run_storeCells_new

end Go.Proofs.YtchnaimpmegbkaaGreatDoor

/- The columns' order: the reference's. -/
namespace Go.Proofs.YtchnaimpmegbkaaGreatDoor
open Go.RowKit
set_option linter.unusedVariables false
set_option linter.unusedSimpArgs false

end Go.Proofs.YtchnaimpmegbkaaGreatDoor

/- Words, weights and names of a code of steps: the reference's. -/
namespace Go.Proofs.YtchnaimpmegbkaaGreatDoor
open Go.RowKit
set_option linter.unusedVariables false
set_option linter.unusedSimpArgs false

end Go.Proofs.YtchnaimpmegbkaaGreatDoor

/- The names of a code of steps: the reference's. -/
namespace Go.Proofs.YtchnaimpmegbkaaGreatDoor
open Go.RowKit
set_option linter.unusedVariables false
set_option linter.unusedSimpArgs false

end Go.Proofs.YtchnaimpmegbkaaGreatDoor

/- Words, weights and names asked of a code of steps: the reference's; lists of ints compared. -/
namespace Go.Proofs.YtchnaimpmegbkaaGreatDoor
open Go.RowKit
set_option linter.unusedVariables false
set_option linter.unusedSimpArgs false

end Go.Proofs.YtchnaimpmegbkaaGreatDoor

/- Comparisons, sums and products of fractions: the program's and the reference's. -/
namespace Go.Proofs.YtchnaimpmegbkaaGreatDoor
open Go.RowKit
set_option linter.unusedVariables false

def bothF (a b c d : List Nat) : Bool := vfB a b && vfB c d
def cmpFS (a b c d : List Nat) : Int × Int := if bothF a b c d = true then (cmpN (val a * val d) (val c * val b), 0) else (0, 8)
theorem bothF_ways (a b c d : List Nat) : (vfB a b = false ∧ bothF a b c d = false) ∨ (vfB a b = true ∧ vfB c d = false ∧ bothF a b c d = false) ∨ (vfB a b = true ∧ vfB c d = true ∧ bothF a b c d = true) := by
  unfold bothF
  cases h : vfB a b
  · exact .inl ⟨rfl, rfl⟩
  · cases h2 : vfB c d
    · exact .inr (.inl ⟨rfl, rfl, rfl⟩)
    · exact .inr (.inr ⟨rfl, rfl, rfl⟩)
theorem vf_parts {a b : List Nat} (h : vfB a b = true) : (a.length ≤ 16 ∧ b.length ≤ 16) ∧ (Trm a ∧ Trm b) ∧ b ≠ [] := by
  rcases vf_ways a b with ⟨_, e⟩ | ⟨_, _, e⟩ | ⟨_, _, _, e⟩ | ⟨h1, h2, _, _⟩
  · rw [e] at h; cases h
  · rw [e] at h; cases h
  · rw [e] at h; cases h
  · obtain ⟨v1, v2⟩ := bothB_parts h1
    obtain ⟨a1, a2⟩ := validB_iff.1 v1
    obtain ⟨b1, b2⟩ := validB_iff.1 v2
    exact ⟨⟨a1, b1⟩, ⟨a2, b2⟩, h2⟩
theorem cfS_yes {a b : List Nat} (h : vfB a b = true) : cfS a b = 0 := by rw [cfS, h]; rfl
theorem cfS_no {a b : List Nat} (h : vfB a b = false) : cfS a b = 8 := by rw [cfS, h]; rfl
theorem times_len {x y : List Nat} {p q : Nat} (hx : Dig x) (hy : Dig y) (lx : x.length ≤ p) (ly : y.length ≤ q) : (digs (val x * val y)).length ≤ p + q := by
  refine digs_len_le ?_
  rw [Nat.pow_add]
  have h1 := Nat.lt_of_lt_of_le (val_lt hx) (Nat.pow_le_pow_right (show 0 < 4294967296 by omega) lx)
  have h2 := Nat.lt_of_lt_of_le (val_lt hy) (Nat.pow_le_pow_right (show 0 < 4294967296 by omega) ly)
  exact Nat.mul_lt_mul'' h1 h2
theorem plus_len {x y p : Nat} (h1 : (digs x).length ≤ p) (h2 : (digs y).length ≤ p) : (digs (x + y)).length ≤ p + 1 := by
  refine digs_len_le ?_
  have := lt_of_digs_len h1
  have := lt_of_digs_len h2
  rw [Nat.pow_succ]
  omega
theorem val_ne_of {b : List Nat} (hb : Trm b) (h : b ≠ []) : val b ≠ 0 := by have := val_pos hb h; omega

/-- Two fractions of the call's own. -/
def Fr2 (W : World) (g : Nat) (u0 u1 v0 v1 : Value) : Prop := Bx W g u0 u1 ∧ Bx W (g + 1) v0 v1
theorem Fr2.below {w w' : World} {g : Nat} {u0 u1 v0 v1 : Value} (h : Fr2 w g u0 u1 v0 v1) (k : Below w.heap.size w w') : Fr2 w' g u0 u1 v0 v1 := ⟨h.1.below k, h.2.below k⟩
theorem Fr2.new (w : World) (u0 u1 v0 v1 : Value) : Fr2 ((w.alloc (.cells #[u0, u1] 27)).alloc (.cells #[v0, v1] 27)) w.heap.size u0 u1 v0 v1 := by
  refine ⟨(Bx.new _ _ _).below (alloc_below _ _), ?_⟩
  have := Bx.new (w.alloc (.cells #[u0, u1] 27)) v0 v1
  rw [World.size_alloc] at this
  exact this
theorem Fr2.cells {w : World} {g : Nat} {u0 u1 v0 v1 : Value} (h : Fr2 w g u0 u1 v0 v1) : w.cell? ⟨g, 0, none⟩ = some u0 ∧ w.cell? ⟨g, 1, none⟩ = some u1 ∧ w.cell? ⟨g + 1, 0, none⟩ = some v0 ∧ w.cell? ⟨g + 1, 1, none⟩ = some v1 := by
  obtain ⟨a, b, _, _⟩ := h.1.cells
  obtain ⟨c, d, _, _⟩ := h.2.cells
  exact ⟨a, b, c, d⟩
theorem Fr2.lt {w : World} {g : Nat} {u0 u1 v0 v1 : Value} (h : Fr2 w g u0 u1 v0 v1) : g + 1 < w.heap.size := h.2.lt

set_option maxHeartbeats 4000000 in
set_option maxRecDepth 100000 in
theorem cross_int_any (A : Option Addr) (ca : Nat) (a : List Nat) (Bd : Option Addr) (cb : Nat) (b : List Nat) (C : Option Addr) (cc : Nat) (c : List Nat) (D : Option Addr) (cd : Nat) (d : List Nat) (w : World) {na nb nc nd : Nat} (hna : a.length = na) (hnb : b.length = nb) (hnc : c.length = nc) (hnd : d.length = nd)
    (ha : NR w A ca a) (hb : NR w Bd cb b) (hc : NR w C cc c) (hd : NR w D cd d) :
    Calls Tryz.prog 55 #[.agg #[.slice A na ca, .slice Bd nb cb], .agg #[.slice C nc cc, .slice D nd cd], .func (.func 56) #[] #[]] w fun e w' => Int2 w w' e (cmpFS a b c d) := by
  have Ha := Lib.hid hna
  have Hb := Lib.hid hnb
  have Hc := Lib.hid hnc
  have Hd := Lib.hid hnd
  obtain ⟨W, hW⟩ : ∃ W : World, W = (w.alloc (.cells #[.slice A na ca, .slice Bd nb cb] 27)).alloc (.cells #[.slice C nc cc, .slice D nd cd] 27) := ⟨_, rfl⟩
  have bW : Below w.heap.size w W := by rw [hW]; exact (alloc_below _ _).alloc (by simp) _
  have xW : Fr2 W w.heap.size (.slice A na ca) (.slice Bd nb cb) (.slice C nc cc) (.slice D nd cd) := by rw [hW]; exact Fr2.new _ _ _ _ _
  have Ra := Lib.hid (ha.below bW)
  have Rb := Lib.hid (hb.below bW)
  have Rc := Lib.hid (hc.below bW)
  have Rd := Lib.hid (hd.below bW)
  have XW := Lib.hid xW
  have HW := Lib.hid hW
  obtain ⟨c0, c1, c2, c3⟩ := xW.cells
  clear hna hnb hnc hnd ha hb hc hd hW xW
  rcases bothF_ways a b c d with ⟨h1, h3⟩ | ⟨h1, h2, h3⟩ | ⟨h1, h2, h3⟩
  · have H1 := Lib.hid h1
    have H3 := Lib.hid h3
    have HS : Hid (cmpFS a b c d = (0, 8)) := by unfold Hid cmpFS; rw [h3]; rfl
    clear h1 h3
    rw [HW.out] at c0 c1 c2 c3
    go_enter Tryz.func55, Tryz.ntmps55
    go_wp2_with fail
    rw [← HW.out]
    clear c0 c1 c2 c3
    refine (CheckFraction_any A ca a Bd cb b _ Ha.out Hb.out Ra.out Rb.out).mono ?_
    rintro e w1 ⟨rfl, b1⟩
    rw [cfS_no H1.out]
    have X1 := Lib.hid (XW.out.below b1)
    have k1 := bW.trans (b1.mono bW.size)
    obtain ⟨d0, d1, d2, d3⟩ := X1.out.cells
    go_wp2_with fail
    go_ret2
    exact Int2.mk' HS.out k1
  · have H1 := Lib.hid h1
    have H3 := Lib.hid h3
    have H2 := Lib.hid h2
    have HS : Hid (cmpFS a b c d = (0, 8)) := by unfold Hid cmpFS; rw [h3]; rfl
    clear h1 h3 h2
    rw [HW.out] at c0 c1 c2 c3
    go_enter Tryz.func55, Tryz.ntmps55
    go_wp2_with fail
    rw [← HW.out]
    clear c0 c1 c2 c3
    refine (CheckFraction_any A ca a Bd cb b _ Ha.out Hb.out Ra.out Rb.out).mono ?_
    rintro e w1 ⟨rfl, b1⟩
    rw [cfS_yes H1.out]
    have X1 := Lib.hid (XW.out.below b1)
    have k1 := bW.trans (b1.mono bW.size)
    obtain ⟨d0, d1, d2, d3⟩ := X1.out.cells
    have Ra1 := Lib.hid (Ra.out.below b1)
    have Rb1 := Lib.hid (Rb.out.below b1)
    have Rc1 := Lib.hid (Rc.out.below b1)
    have Rd1 := Lib.hid (Rd.out.below b1)
    clear b1
    go_wp2_with fail
    refine (CheckFraction_any C cc c D cd d _ Hc.out Hd.out Rc1.out Rd1.out).mono ?_
    rintro e w2 ⟨rfl, b2⟩
    rw [cfS_no H2.out]
    have X2 := Lib.hid (X1.out.below b2)
    have k2 := k1.trans (b2.mono k1.size)
    clear d0 d1 d2 d3
    go_wp2_with fail
    go_ret2
    exact Int2.mk' HS.out k2
  · have H1 := Lib.hid h1
    have H3 := Lib.hid h3
    have H2 := Lib.hid h2
    obtain ⟨⟨l1, l2⟩, ⟨t1, t2⟩, n1⟩ := vf_parts h1
    obtain ⟨⟨l3, l4⟩, ⟨t3, t4⟩, n2⟩ := vf_parts h2
    have L1 : na ≤ 16 := by have := Ha.out; omega
    have L2 : nb ≤ 16 := by have := Hb.out; omega
    have L3 : nc ≤ 16 := by have := Hc.out; omega
    have L4 : nd ≤ 16 := by have := Hd.out; omega
    have M1 : Hid ((digs (val a * val d)).length ≤ 32) := times_len Ra.out.dig Rd.out.dig l1 l4
    have M2 : Hid ((digs (val c * val b)).length ≤ 32) := times_len Rc.out.dig Rb.out.dig l3 l2
    have M3 : Hid ((digs (val b * val d)).length ≤ 32) := times_len Rb.out.dig Rd.out.dig l2 l4
    have M4 : Hid ((digs (val a * val c)).length ≤ 32) := times_len Ra.out.dig Rc.out.dig l1 l3
    have M5 : Hid (digs (val b * val d) ≠ []) := digs_ne (Nat.mul_ne_zero (val_ne_of t2 n1) (val_ne_of t4 n2))
    have M6 : Hid ((digs (val a * val d + val c * val b)).length ≤ 33) := plus_len M1.out M2.out
    have HS : Hid (cmpFS a b c d = (cmpN (val a * val d) (val c * val b), 0)) := by unfold Hid cmpFS; rw [h3]; rfl
    clear l1 l2 l3 l4 t1 t2 t3 t4 n1 n2
    clear h1 h3 h2
    rw [HW.out] at c0 c1 c2 c3
    go_enter Tryz.func55, Tryz.ntmps55
    go_wp2_with fail
    rw [← HW.out]
    clear c0 c1 c2 c3
    refine (CheckFraction_any A ca a Bd cb b _ Ha.out Hb.out Ra.out Rb.out).mono ?_
    rintro e w1 ⟨rfl, b1⟩
    rw [cfS_yes H1.out]
    have X1 := Lib.hid (XW.out.below b1)
    have k1 := bW.trans (b1.mono bW.size)
    obtain ⟨d0, d1, d2, d3⟩ := X1.out.cells
    have Ra1 := Lib.hid (Ra.out.below b1)
    have Rb1 := Lib.hid (Rb.out.below b1)
    have Rc1 := Lib.hid (Rc.out.below b1)
    have Rd1 := Lib.hid (Rd.out.below b1)
    clear b1
    go_wp2_with fail
    refine (CheckFraction_any C cc c D cd d _ Hc.out Hd.out Rc1.out Rd1.out).mono ?_
    rintro e w2 ⟨rfl, b2⟩
    rw [cfS_yes H2.out]
    have X2 := Lib.hid (X1.out.below b2)
    have k2 := k1.trans (b2.mono k1.size)
    clear d0 d1 d2 d3
    have Ra2 := Lib.hid (Ra1.out.below b2)
    have Rb2 := Lib.hid (Rb1.out.below b2)
    have Rc2 := Lib.hid (Rc1.out.below b2)
    have Rd2 := Lib.hid (Rd1.out.below b2)
    clear b2 Ra1 Rb1 Rc1 Rd1 X1
    obtain ⟨e0, e1, e2, e3⟩ := (show Fr2 w2.drew w.heap.size (.slice A na ca) (.slice Bd nb cb) (.slice C nc cc) (.slice D nd cd) from X2.out).cells
    have XD : Hid (Fr2 w2.drew w.heap.size (.slice A na ca) (.slice Bd nb cb) (.slice C nc cc) (.slice D nd cd)) := X2.out
    have kD := k2.drew
    go_wp2_with fail
    go_region_held3 (fun w' => w'.cell? ⟨w.heap.size, 0, none⟩ = some (.slice A na ca) ∧ w'.cell? ⟨w.heap.size, 1, none⟩ = some (.slice Bd nb cb) ∧ w'.cell? ⟨w.heap.size + 1, 0, none⟩ = some (.slice C nc cc) ∧ w'.cell? ⟨w.heap.size + 1, 1, none⟩ = some (.slice D nd cd)) ((first | exact ⟨n0, n1, n2, n3⟩ | exact ⟨m0, m1, m2, m3⟩ | exact ⟨l0, l1, l2, l3⟩ | exact ⟨e0, e1, e2, e3⟩)) (first
      | (go_at_call_of 86 A; go_loud (refine (times_any A ca a D cd d _ Ha.out Hd.out Ra2.out.drew Rd2.out.drew (by omega) (by omega)).mono ?_; rintro e w3 ⟨P, cP, rfl, hP, b3⟩; obtain ⟨l0, l1, l2, l3⟩ := (Fr2.below (XD.out) b3).cells))
      | (go_at_call_of 86 C; go_loud (refine (times_any C cc c Bd cb b _ Hc.out Hb.out (Rc2.out.drew.below b3) (Rb2.out.drew.below b3) (by omega) (by omega)).mono ?_; rintro e w4 ⟨Q, cQ, rfl, hQ, b4⟩; obtain ⟨m0, m1, m2, m3⟩ := (Fr2.below (Fr2.below (XD.out) b3) b4).cells))
      | (go_at_call 56; go_loud (refine (order_any P cP (digs (val a * val d)) Q cQ (digs (val c * val b)) _ rfl rfl (hP.1.below b4) hQ.1 (Trm.digs _) (Trm.digs _)).mono ?_; rintro e w5 ⟨rfl, b5⟩; rw [val_digs, val_digs]; obtain ⟨n0, n1, n2, n3⟩ := (Fr2.below (Fr2.below (Fr2.below (XD.out) b3) b4) b5).cells)))
    all_goals
      have k3 := kD.trans (b3.mono kD.size)
      have k4 := k3.trans (b4.mono k3.size)
      have k5 := k4.trans (b5.mono k4.size)
      go_wp2_with fail
      go_ret2
      exact Int2.mk' HS.out k5

set_option maxHeartbeats 1000000 in
theorem CompareFractions_any (A : Option Addr) (ca : Nat) (a : List Nat) (Bd : Option Addr) (cb : Nat) (b : List Nat) (C : Option Addr) (cc : Nat) (c : List Nat) (D : Option Addr) (cd : Nat) (d : List Nat) (w : World) {na nb nc nd : Nat} (hna : a.length = na) (hnb : b.length = nb) (hnc : c.length = nc) (hnd : d.length = nd)
    (ha : NR w A ca a) (hb : NR w Bd cb b) (hc : NR w C cc c) (hd : NR w D cd d) :
    Calls Tryz.prog 21 #[.agg #[.slice A na ca, .slice Bd nb cb], .agg #[.slice C nc cc, .slice D nd cd]] w fun e w' => Int2 w w' e (cmpFS a b c d) := by
  have Ha := Lib.hid hna
  have Hb := Lib.hid hnb
  have Hc := Lib.hid hnc
  have Hd := Lib.hid hnd
  have bW : Below w.heap.size w ((w.alloc (.cells #[.slice A na ca, .slice Bd nb cb] 27)).alloc (.cells #[.slice C nc cc, .slice D nd cd] 27)) := (alloc_below _ _).alloc (by simp) _
  obtain ⟨c0, c1, c2, c3⟩ := (Fr2.new w (.slice A na ca) (.slice Bd nb cb) (.slice C nc cc) (.slice D nd cd)).cells
  have Ra := Lib.hid (ha.below bW)
  have Rb := Lib.hid (hb.below bW)
  have Rc := Lib.hid (hc.below bW)
  have Rd := Lib.hid (hd.below bW)
  clear hna hnb hnc hnd ha hb hc hd
  go_enter Tryz.func21, Tryz.ntmps21
  go_wp2_with fail
  refine (cross_int_any A ca a Bd cb b C cc c D cd d _ Ha.out Hb.out Hc.out Hd.out Ra.out Rb.out Rc.out Rd.out).mono ?_
  rintro e w1 ⟨rfl, b1⟩
  go_wp2_with fail
  go_ret2
  exact ⟨rfl, bW.trans (b1.mono bW.size)⟩

end Go.Proofs.YtchnaimpmegbkaaGreatDoor

/- Fractions in lowest terms: compared and added, in plain words. -/
namespace Go.Proofs.YtchnaimpmegbkaaGreatDoor
open Go.RowKit
set_option linter.unusedVariables false

theorem low_parts (x : Nat) {y : Nat} (hy : y ≠ 0) : ∃ p q g, g ≠ 0 ∧ q ≠ 0 ∧ x = p * g ∧ y = q * g ∧ gcdN p q = 1 ∧ lowS x y = (digs p, digs q) := by
  have hg : Nat.gcd x y ≠ 0 := gcdN_pos_right hy
  have h1 : x / Nat.gcd x y * Nat.gcd x y = x := Nat.div_mul_cancel (Nat.gcd_dvd_left x y)
  have h2 : y / Nat.gcd x y * Nat.gcd x y = y := Nat.div_mul_cancel (Nat.gcd_dvd_right x y)
  refine ⟨x / Nat.gcd x y, y / Nat.gcd x y, Nat.gcd x y, hg, fun e => hy ?_, h1.symm, h2.symm, ?_, rfl⟩
  · rw [← h2, e, Nat.zero_mul]
  · have h3 : Nat.gcd (x / Nat.gcd x y * Nat.gcd x y) (y / Nat.gcd x y * Nat.gcd x y) = Nat.gcd x y := by rw [h1, h2]
    rw [Nat.gcd_mul_right] at h3
    exact Nat.eq_of_mul_eq_mul_right (Nat.pos_of_ne_zero hg) (by rw [Nat.one_mul]; exact h3)
theorem cmpN_scale {x y k : Nat} (hk : k ≠ 0) : cmpN (x * k) (y * k) = cmpN x y := by
  rcases Nat.lt_trichotomy x y with h | h | h
  · rw [cmpN_lt h, cmpN_lt ((Nat.mul_lt_mul_right (Nat.pos_of_ne_zero hk)).2 h)]
  · rw [cmpN_eq h, cmpN_eq (by rw [h])]
  · rw [cmpN_gt h, cmpN_gt ((Nat.mul_lt_mul_right (Nat.pos_of_ne_zero hk)).2 h)]
theorem low_len {a b n : Nat} (h : a ≤ b) (hb : (digs b).length ≤ n) : (digs a).length ≤ n := Nat.le_trans (digs_len_mono h) hb
theorem bothB_yes_ {a b : List Nat} (h1 : validB a = true) (h2 : validB b = true) : bothB a b = true := by unfold bothB; rw [h1, h2]; rfl
theorem vf_low {p q : Nat} (hq : q ≠ 0) (h1 : (digs p).length ≤ 16) (h2 : (digs q).length ≤ 16) (hg : gcdN p q = 1) : vfB (digs p) (digs q) = true := by
  have e : bothB (digs p) (digs q) = true := bothB_yes_ (Sm.valid h1) (Sm.valid h2)
  simp [vfB, e, digs_ne hq, val_digs, hg]
theorem low_vf {x y : Nat} (hy : y ≠ 0) (h1 : Sm x) (h2 : Sm y) : vfB (lowS x y).1 (lowS x y).2 = true := by
  obtain ⟨p, q, g, hg, hq, rfl, rfl, h, e⟩ := low_parts x hy
  rw [e]
  exact vf_low hq (low_len (Nat.le_mul_of_pos_right _ (Nat.pos_of_ne_zero hg)) h1) (low_len (Nat.le_mul_of_pos_right _ (Nat.pos_of_ne_zero hg)) h2) h
theorem low_cmp {x y : Nat} {p q : List Nat} (hy : y ≠ 0) (h1 : Sm x) (h2 : Sm y) (hv : vfB p q = true) : cmpFS (lowS x y).1 (lowS x y).2 p q = (cmpN (x * val q) (val p * y), 0) := by
  have hl := low_vf hy h1 h2
  unfold cmpFS
  rw [if_pos (by unfold bothF; rw [hl, hv]; rfl)]
  obtain ⟨a, b, g, hg, hb, rfl, rfl, h, e⟩ := low_parts x hy
  rw [e]
  dsimp only
  rw [val_digs, val_digs, show a * g * val q = a * val q * g from Nat.mul_right_comm _ _ _, show val p * (b * g) = val p * b * g from (Nat.mul_assoc _ _ _).symm, cmpN_scale hg]
theorem cmpN_le0 {x y : Nat} : cmpN x y ≤ 0 ↔ x ≤ y := by
  rcases cmpN_cases x y with ⟨h, e⟩ | ⟨h, e⟩ | ⟨h, e⟩ <;> rw [e] <;> constructor <;> intro <;> omega
theorem cmpN_gt0 {x y : Nat} : 0 < cmpN x y ↔ y < x := by
  rcases cmpN_cases x y with ⟨h, e⟩ | ⟨h, e⟩ | ⟨h, e⟩ <;> rw [e] <;> constructor <;> intro <;> omega
end Go.Proofs.YtchnaimpmegbkaaGreatDoor

/- A lone pirate, in plain words. -/
namespace Go.Proofs.YtchnaimpmegbkaaGreatDoor
open Go.RowKit
set_option linter.unusedVariables false
set_option linter.unusedSimpArgs false

theorem bin_sm {d : Nat} (h : d ≤ 64) : Sm (bin (2 * d) d) := sm_bin (by omega)
theorem bin_ne (d : Nat) : bin (2 * d) d ≠ 0 := by have := bin_pos (a := 2 * d) (b := d) (by omega); omega
theorem divs_sm {d k X : Nat} (hd : d ≤ 64) (hk : k ≤ 2 * d) (hX : X ≤ k + 1) : Sm (divsN d k X) := (bin_sm hd).mono (by have := divsN_sym hk hX; omega)
/-- The tail of the threshold is at most the limit, and that of the next number is above it. -/
theorem thr_tails {s : StV} (hok : s.ok = true) {d K : Nat} (hd : s.b = (d : Int)) (hK : K ≤ 2 * d) : ∃ X : Nat, s.th K + 1 = (X : Int) ∧ X + 1 ≤ K + 1 ∧ -1 ≤ s.th K ∧ s.th K < K ∧
    cmpFS (lowS (divsN d K X) (bin (2 * d) d)).1 (lowS (divsN d K X) (bin (2 * d) d)).2 s.x s.y = (cmpN (divsN d K X * val s.y) (val s.x * bin (2 * d) d), 0) ∧ cmpN (divsN d K X * val s.y) (val s.x * bin (2 * d) d) ≤ 0 ∧
    cmpFS (lowS (divsN d K (X + 1)) (bin (2 * d) d)).1 (lowS (divsN d K (X + 1)) (bin (2 * d) d)).2 s.x s.y = (cmpN (divsN d K (X + 1) * val s.y) (val s.x * bin (2 * d) d), 0) ∧ 0 < cmpN (divsN d K (X + 1) * val s.y) (val s.x * bin (2 * d) d) := by
  obtain ⟨⟨q1, q2, q3, q4⟩, hl⟩ := StV.parts hok
  obtain ⟨hv, h2, h3, h4⟩ := limB_iff.1 hl
  have e : s.th K = thS d K (val s.x) (val s.y) := by unfold StV.th; rw [hd, Int.toNat_natCast]
  have h5 := thS_ge d K (val s.x) (val s.y)
  have h6 := thS_lt hK h4
  have h7 := thS_over h6
  rw [e]
  obtain ⟨X, hX⟩ : ∃ X : Nat, thS d K (val s.x) (val s.y) + 1 = (X : Int) := ⟨(thS d K (val s.x) (val s.y) + 1).toNat, by omega⟩
  rw [show (thS d K (val s.x) (val s.y) + 2).toNat = X + 1 from by omega] at h7
  refine ⟨X, hX, by omega, h5, h6, low_cmp (bin_ne d) (divs_sm (by omega) hK (by omega)) (bin_sm (by omega)) hv, cmpN_le0.2 ?_, low_cmp (bin_ne d) (divs_sm (by omega) hK (by omega)) (bin_sm (by omega)) hv, cmpN_gt0.2 h7⟩
  cases X with
  | zero => simp [divsN, sumN]
  | succ X => exact thS_under (by omega)
theorem it_nat (l : List Nat) (i : Nat) : it (natI l) i = ((l.getD i 0 : Nat) : Int) := by
  unfold it natI
  rw [List.getD_eq_getElem?_getD, List.getD_eq_getElem?_getD, List.getElem?_map]
  cases l[i]? <;> rfl
theorem StV.word_bit (s : StV) (x i : Nat) : bt (s.word x) i ≤ 1 := wordF_bit _ _ _ _ _
theorem StV.word_cp (s : StV) (x : Nat) : copyB (s.word x) s.n = true := by
  unfold copyB
  rw [Bool.and_eq_true, decide_eq_true_eq]
  exact ⟨s.word_len x, symB_iff.2 fun i _ => Nat.le_trans (s.word_bit x i) (by omega)⟩
theorem namesF_none {P : Nat → Bool} : ∀ {n : Nat}, (∀ x, x < n → P x = false) → namesF P n = []
  | 0, _ => rfl
  | n + 1, h => by rw [namesF_no (h n (by omega)), namesF_none fun x hx => h x (by omega)]
theorem namesF_one {P : Nat → Bool} {u : Nat} (h1 : P u = true) : ∀ {n : Nat}, u < n → (∀ x, x < n → x ≠ u → P x = false) → namesF P n = [(u : Int)]
  | 0, h, _ => absurd h (by omega)
  | n + 1, h, h2 => by
    by_cases e : n = u
    · subst e
      rw [namesF_yes h1, namesF_none fun x hx => h2 x (by omega) (by omega)]; rfl
    · rw [namesF_no (h2 n (by omega) e)]
      exact namesF_one h1 (by omega) fun x hx => h2 x (by omega)
theorem lone_wts {s : StV} (hok : s.ok = true) {d m : Nat} (hd : s.b = (d : Int)) (hu : s.u = ((m + 1 : Nat) : Int)) (hn : s.n = m * d) (h1 : 1 ≤ d) (x : Nat) {b : Nat} (hb : b < m) : (s.wts (s.word x)).getD b 0 = if x ≤ b then d else 0 := by
  obtain ⟨hn1, hn2, -⟩ := StV.n_le hok
  have ha : ArrL s.at_ (m * d) := by rw [← hn]; exact s.arr (by omega)
  unfold StV.wts StV.word
  rw [hd, hu, Int.toNat_natCast, Int.toNat_natCast, Nat.add_sub_cancel, hn]
  exact word_weights ha (by omega) hb
theorem full_low {s : StV} (hok : s.ok = true) {d : Nat} (hd : s.b = (d : Int)) : s.th (2 * d) < d := by
  obtain ⟨⟨q1, q2, q3, q4⟩, hl⟩ := StV.parts hok
  obtain ⟨hv, h2, h3, h4⟩ := limB_iff.1 hl
  obtain ⟨X, hX, hX2, t1, t2, -, r2, -, -⟩ := thr_tails hok hd (show 2 * d ≤ 2 * d from Nat.le_refl _)
  apply Classical.byContradiction
  intro hno
  have hXd : d + 1 ≤ X := by omega
  have h5 : bin (2 * d) d ≤ divsN d (2 * d) X := by
    refine Nat.le_trans ?_ (sumN_mono _ hXd)
    rw [sumN_succ]
    have e : pick (2 * d) (2 * d - 2 * d) d d = bin (2 * d) d := by unfold pick; rw [if_pos (Nat.le_refl _), Nat.sub_self, Nat.sub_self, bin_zero, Nat.mul_one]
    rw [e]
    exact Nat.le_add_left _ _
  have h6 := cmpN_le0.1 r2
  have h7 : 0 < bin (2 * d) d := by have := bin_ne d; omega
  have h8 : bin (2 * d) d * val s.y ≤ val s.x * bin (2 * d) d := Nat.le_trans (Nat.mul_le_mul_right _ h5) h6
  rw [Nat.mul_comm (val s.x)] at h8
  have := Nat.le_of_mul_le_mul_left h8 h7
  omega
theorem lone_names {s : StV} (hok : s.ok = true) {d m : Nat} (hd : s.b = (d : Int)) (hu : s.u = ((m + 1 : Nat) : Int)) (hn : s.n = m * d) (h1 : 1 ≤ d) (hm : 1 ≤ m) {x : Nat} (hx : x ≤ m) (hth : 0 ≤ s.th d) : s.nms (s.word x) = [(x : Int)] := by
  obtain ⟨⟨q1, q2, q3, q4⟩, hl⟩ := StV.parts hok
  obtain ⟨hv, h2, h3, h4⟩ := limB_iff.1 hl
  have hw : ∀ b, b < m → (s.wts (s.word x)).getD b 0 = if x ≤ b then d else 0 := fun b hb => lone_wts hok hd hu hn h1 x hb
  have hfull := full_low hok hd
  have hzero : s.th 0 < 0 := by
    unfold StV.th
    exact thS_lt (by omega) h4
  unfold StV.th at hfull hzero hth
  rw [hd, Int.toNat_natCast] at hfull hzero hth
  unfold StV.nms StV.nmsW namesS
  rw [hu, hd, Int.toNat_natCast, Int.toNat_natCast]
  generalize s.wts (s.word x) = w at *
  have hP : ∀ y, y < m + 1 → namedB (m + 1) d (val s.x) (val s.y) w y = decide (y = x) := fun y hy => by
    unfold namedB
    by_cases e0 : y = 0
    · subst e0
      rw [if_pos rfl, hw 0 (by omega)]
      by_cases e : x = 0
      · subst e; simp; omega
      · rw [if_neg (by omega)]; simp; omega
    · rw [if_neg e0]
      by_cases e1 : y + 1 = m + 1
      · rw [if_pos e1, hw (y - 1) (by omega)]
        by_cases e : x ≤ y - 1
        · rw [if_pos e]; simp; omega
        · rw [if_neg e]; simp; omega
      · rw [if_neg e1, hw (y - 1) (by omega), hw y (by omega)]
        by_cases e : x ≤ y - 1
        · rw [if_pos e, if_pos (by omega), show d + d = 2 * d by omega, decide_eq_false (by omega), decide_eq_false (by omega)]
        · rw [if_neg e]
          by_cases e2 : x ≤ y
          · rw [if_pos e2, Nat.zero_add, decide_eq_true (by omega), decide_eq_true (by omega)]
          · rw [if_neg e2, Nat.zero_add, decide_eq_false (by omega), decide_eq_false (by omega)]
  exact namesF_one (by rw [hP x (by omega)]; simp) (by omega) fun y hy hne => by rw [hP y hy]; simp [hne]
end Go.Proofs.YtchnaimpmegbkaaGreatDoor

/- Whether a copy is feasible: the plain words; the program. -/
namespace Go.Proofs.YtchnaimpmegbkaaGreatDoor
open Go.RowKit Go.Shelf
set_option linter.unusedVariables false

def hd (ls : List (List UInt8)) : List UInt8 := ls.getD 0 []
def okWords (ls : List (List UInt8)) : Bool := decide (1 ≤ ls.length) && (decide (ls.length ≤ 64) && (decide ((hd ls).length ≤ 1024) && !anyI ls.length (fun i => !wordB (ls.getD i []) (hd ls).length)))
/-- In the place i not all words have the first word's symbol. -/
def oddB (ls : List (List UInt8)) (i : Nat) : Bool := anyI ls.length (fun j => bt (ls.getD j []) i != bt (hd ls) i)
def isFeas (ls : List (List UInt8)) (y : List UInt8) : Bool := !anyI y.length (fun i => bt y i != bt (hd ls) i && !oddB ls i)
def feasS (ls : List (List UInt8)) (y : List UInt8) : Bool × Int := if okWords ls = true then (if copyB y (hd ls).length = true then (isFeas ls y, 0) else (false, 71)) else (false, 2)
theorem okWords_parts {ls : List (List UInt8)} (h : okWords ls = true) : 1 ≤ ls.length ∧ ls.length ≤ 64 ∧ (hd ls).length ≤ 1024 ∧ ∀ i, i < ls.length → wordB (ls.getD i []) (hd ls).length = true := by
  simp only [okWords, Bool.and_eq_true, decide_eq_true_eq, Bool.not_eq_true'] at h
  obtain ⟨h1, h2, h3, h4⟩ := h
  refine ⟨h1, h2, h3, fun i hi => ?_⟩
  cases hw : wordB (ls.getD i []) (hd ls).length
  · have : anyI ls.length (fun i => !wordB (ls.getD i []) (hd ls).length) = true := anyI_iff.2 ⟨i, hi, by rw [hw]; rfl⟩
    rw [this] at h4; cases h4
  · rfl
theorem wordB_len {l : List UInt8} {n : Nat} (h : wordB l n = true) : l.length = n := by
  simp only [wordB, Bool.and_eq_true, decide_eq_true_eq] at h
  exact h.1
theorem row_l {rs : List BRow} {i : Nat} {r : BRow} (h : rs[i]? = some r) : (rs.map BRow.l).getD i [] = r.l := by simp [List.getD, h]
theorem RR.at_ {w : World} {A : Option Addr} {c : Nat} {rs : List BRow} (h : RR w A c rs) {i : Nat} (hi : i < rs.length) :
    ∃ b off r, A = some ⟨b, off, none⟩ ∧ b < w.heap.size ∧ rs[i]? = some r ∧ w.cell? ⟨b, off + i, none⟩ = some (.slice r.A r.l.length r.c) ∧ BR w r.A r.c r.l := by
  obtain ⟨b, off, e, hb, v, hv, hc⟩ := Rd.at1 h.1 hi
  have hr : rs[i]? = some rs[i] := List.getElem?_eq_getElem hi
  rw [List.getElem?_map, hr] at hv
  injection hv with hv
  subst hv
  exact ⟨b, off, rs[i], e, hb, hr, hc, h.2 _ (List.getElem_mem hi)⟩
theorem RR.below {w w' : World} {A : Option Addr} {c : Nat} {rs : List BRow} (h : RR w A c rs) (hb : Below w.heap.size w w') : RR w' A c rs := ⟨h.1.below hb, fun r hr => (h.2 r hr).below hb⟩

set_option maxHeartbeats 400000 in
theorem Feasible1_any (r : BRow) (n0 g : Nat) (w : World) (h : BR w r.A r.c r.l) (hn : n0 ≤ 140737488351232) (hg : w.cell? ⟨g, 0, none⟩ = some (.int .i64 (n0 : Int))) :
    Calls Tryz.prog 43 #[r.v, .pointer (some ⟨g, 0, none⟩)] w fun e w' => e = .returned (.bool (!wordB r.l n0)) ∧ Below w.heap.size w w' := by
  have H := Lib.hid h
  obtain ⟨A, c, l⟩ := r
  have HW := Lib.hid (isWord_any A c l n0 w rfl H.out hn)
  clear h
  show Calls Tryz.prog 43 #[.slice A l.length c, .pointer (some ⟨g, 0, none⟩)] w _
  go_enter Tryz.func43, Tryz.ntmps43
  go_wp2_with (go_at_call 44; refine HW.out.mono ?_; rintro e w1 ⟨rfl, hb1⟩)
  go_ret
  exact ⟨rfl, hb1⟩
set_option maxHeartbeats 400000 in
theorem Feasible2_any (A : Option Addr) (c : Nat) (rs : List BRow) (r : BRow) (k g g' : Nat) (w : World) {n : Nat} (hn : rs.length = n) (h : RR w A c rs) (hr : BR w r.A r.c r.l) (hk : k < r.l.length) (hk0 : k < (hd (rs.map BRow.l)).length) (h0 : 0 < rs.length)
    (hg : w.cell? ⟨g, 0, none⟩ = some (.int .i64 (k : Int))) (hg' : w.cell? ⟨g', 0, none⟩ = some (.slice A n c)) :
    Calls Tryz.prog 46 #[r.v, .pointer (some ⟨g, 0, none⟩), .pointer (some ⟨g', 0, none⟩)] w fun e w' => e = .returned (.bool (bt r.l k != bt (hd (rs.map BRow.l)) k)) ∧ Below w.heap.size w w' := by
  obtain ⟨b, off, r0, rfl, hb, hr0, hc0, hR0⟩ := h.at_ h0
  have e0 : hd (rs.map BRow.l) = r0.l := row_l hr0
  rw [e0] at hk0 ⊢
  obtain ⟨b1, o1, e1, hb1, hc1⟩ := hr.at_ hk
  obtain ⟨b2, o2, e2, hb2, hc2⟩ := hR0.at_ hk0
  obtain ⟨A1, c1, l⟩ := r
  obtain ⟨A2, c2, l0⟩ := r0
  dsimp only at e1 e2 hc1 hc2 hk hk0 hc0 ⊢
  subst e1 e2 hn
  rw [Nat.add_zero] at hc0
  have hl1 : (l.length : Int) ≤ 140737488351232 := by have := hr.len; simp only at this; omega
  have hl2 : (l0.length : Int) ≤ 140737488351232 := by have := hR0.len; simp only at this; omega
  have k1 : (k : Int) < l.length := by omega
  have k2 : (k : Int) < l0.length := by omega
  have k0 : (0 : Int) ≤ k := by omega
  have h00 : (0 : Int) < rs.length := by omega
  have x1 := bt_le l k
  have x2 := bt_le l0 k
  generalize bt l k = x at *
  generalize bt l0 k = y at *
  clear h hr hr0 hR0 e0
  show Calls Tryz.prog 46 #[.slice (some ⟨b1, o1, none⟩) l.length c1, .pointer (some ⟨g, 0, none⟩), .pointer (some ⟨g', 0, none⟩)] w _
  go_enter Tryz.func46, Tryz.ntmps46
  go_wp2_with fail
  go_quiet (fail)
  go_wp2_with fail
  go_ret
  exact ⟨ret_bool' (by rw [Bool.eq_iff_iff]; simp; omega), below_drewN (Below.refl _ _) _⟩

theorem okWords_no {ls : List (List UInt8)} {y : List UInt8} (h : okWords ls = false) : feasS ls y = (false, 2) := by rw [feasS, h]; rfl
theorem feasS_copy {ls : List (List UInt8)} {y : List UInt8} (h : okWords ls = true) (h2 : copyB y (hd ls).length = false) : feasS ls y = (false, 71) := by rw [feasS, h, h2]; rfl
theorem feasS_yes {ls : List (List UInt8)} {y : List UInt8} (h : okWords ls = true) (h2 : copyB y (hd ls).length = true) : feasS ls y = (isFeas ls y, 0) := by rw [feasS, h, h2]; rfl
theorem copyB_len {l : List UInt8} {n : Nat} (h : copyB l n = true) : l.length = n := by
  simp only [copyB, Bool.and_eq_true, decide_eq_true_eq] at h
  exact h.1
theorem isFeas_no {ls : List (List UInt8)} {y : List UInt8} {k : Nat} (hk : k < y.length) (h1 : bt y k ≠ bt (hd ls) k) (h2 : oddB ls k = false) : isFeas ls y = false := by
  have : anyI y.length (fun i => bt y i != bt (hd ls) i && !oddB ls i) = true := anyI_iff.2 ⟨k, hk, by rw [h2]; simpa using h1⟩
  rw [isFeas, this]; rfl
theorem isFeas_yes {ls : List (List UInt8)} {y : List UInt8} (h : ∀ k, k < y.length → bt y k = bt (hd ls) k ∨ oddB ls k = true) : isFeas ls y = true := by
  have : anyI y.length (fun i => bt y i != bt (hd ls) i && !oddB ls i) = false := by
    cases ha : anyI y.length (fun i => bt y i != bt (hd ls) i && !oddB ls i)
    · rfl
    · obtain ⟨i, hi, hp⟩ := anyI_iff.1 ha
      rcases h i hi with h1 | h1
      · rw [h1] at hp; simp at hp
      · rw [h1] at hp; simp at hp
  rw [isFeas, this]; rfl

set_option maxHeartbeats 2000000 in
set_option maxRecDepth 100000 in
theorem Feasible_any (A : Option Addr) (c : Nat) (rs : List BRow) (Y : Option Addr) (d : Nat) (y : List UInt8) (w : World) {n m : Nat} (hn : rs.length = n) (hm : y.length = m) (h : RR w A c rs) (hy : BR w Y d y) :
    Calls Tryz.prog 17 #[.slice A n c, .slice Y m d] w fun e w' => e = .returned (.tuple #[.bool (feasS (rs.map BRow.l) y).1, .int .i64 (feasS (rs.map BRow.l) y).2]) ∧ Below w.heap.size w w' := by
  have hlen : (n : Int) ≤ 140737488351232 := by have := h.1.len; omega
  have HN := Lib.hid hn
  have HM := Lib.hid hm
  have H := Lib.hid h
  have HY := Lib.hid hy
  obtain ⟨W1, hW1⟩ : ∃ W : World, W = w.alloc (.cells #[.slice A n c] 30) := ⟨_, rfl⟩
  have b1 : Below w.heap.size w W1 := by rw [hW1]; exact alloc_bel _ _
  have HZ1 : Hid (W1.heap.size = w.heap.size + 1) := by unfold Hid; rw [hW1]; simp
  have HW1 := Lib.hid hW1
  by_cases h0 : n = 0
  · have HS : Hid (feasS (rs.map BRow.l) y = (false, 2)) := okWords_no (by
      have : rs = [] := List.eq_nil_of_length_eq_zero (by omega)
      rw [this]; rfl)
    rw [HS.out]
    subst h0
    clear hn hm h hy hW1
    go_enter Tryz.func17, Tryz.ntmps17
    go_wp2_with fail
    go_ret2
    exact ⟨rfl, alloc_bel _ _⟩
  · have t0 : decide ((n : Int) < 1) = false := by simp; omega
    have t0' : decide (n < 1) = false := by simp; omega
    by_cases h64 : 64 < n
    · have t1 : decide ((64 : Int) < n) = true := by simp; omega
      have t1' : decide (64 < n) = true := by simp; omega
      have HS : Hid (feasS (rs.map BRow.l) y = (false, 2)) := okWords_no (by simp [okWords, hn]; omega)
      rw [HS.out]
      clear hn hm h hy hW1 h0 h64
      go_enter Tryz.func17, Tryz.ntmps17
      go_wp2_with fail
      go_ret2
      exact ⟨rfl, alloc_bel _ _⟩
    · have t1 : decide ((64 : Int) < n) = false := by simp; omega
      have t1' : decide (64 < n) = false := by simp; omega
      have hn0 : (0 : Int) < n := by omega
      have hn0' : 0 < n := by omega
      obtain ⟨b, off, r0, rfl, hb, hr0, hc0, hR0⟩ := h.at_ (i := 0) (by omega)
      rw [Nat.add_zero] at hc0
      have e0 : Hid (hd (rs.map BRow.l) = r0.l) := row_l hr0
      have hl0 : (r0.l.length : Int) ≤ 140737488351232 := by have := hR0.len; omega
      have c1 : W1.cell? ⟨b, off, none⟩ = some (.slice r0.A r0.l.length r0.c) := (b1.cell (p := ⟨b, off, none⟩) hb).trans hc0
      have p1 : W1.cell? ⟨w.heap.size, 0, none⟩ = some (.slice (some ⟨b, off, none⟩) n c) := by rw [hW1]; simp
      obtain ⟨l0, hl⟩ : ∃ l0, r0.l.length = l0 := ⟨_, rfl⟩
      have HL := Lib.hid hl
      rw [hl] at hc0 hl0 c1
      by_cases hbig : 1024 < l0
      · have t2 : decide ((1024 : Int) < l0) = true := by simp; omega
        have t2' : decide (1024 < l0) = true := by simp; omega
        have HS : Hid (feasS (rs.map BRow.l) y = (false, 2)) := okWords_no (by simp [okWords, hn, e0.out, hl]; omega)
        rw [HS.out]
        clear hn hm h hy hW1 h0 h64 hbig hr0 hl c1 p1
        go_enter Tryz.func17, Tryz.ntmps17
        go_wp2_with fail
        go_ret2
        exact ⟨rfl, alloc_bel _ _⟩
      · have t2 : decide ((1024 : Int) < l0) = false := by simp; omega
        have t2' : decide (1024 < l0) = false := by simp; omega
        -- the second box
        obtain ⟨W2, hW2⟩ : ∃ W : World, W = W1.alloc (.cells #[.int .i64 (l0 : Int)] 3) := ⟨_, rfl⟩
        have b2 : Below W1.heap.size W1 W2 := by rw [hW2]; exact alloc_bel _ _
        have HW2 := Lib.hid hW2
        have q2 : W2.cell? ⟨W1.heap.size, 0, none⟩ = some (.int .i64 (l0 : Int)) := by rw [hW2]; simp
        have p2 : W2.cell? ⟨w.heap.size, 0, none⟩ = some (.slice (some ⟨b, off, none⟩) n c) := (b2.cell (p := ⟨w.heap.size, 0, none⟩) (by simp [HZ1.out])).trans p1
        have z2 : W2.heap.size = W1.heap.size + 1 := by rw [hW2]; simp
        have HZ2 := Lib.hid z2
        have b02 := b1.trans (b2.mono b1.size)
        have R2 := Lib.hid (h.below b02)
        have Y2 := Lib.hid (hy.below b02)
        have HCF := Lib.hid (ContainsRows_any (some ⟨b, off, none⟩) c rs 43 #[.pointer (some ⟨W1.heap.size, 0, none⟩)] (fun i => !wordB ((rs.map BRow.l).getD i []) l0) W2
          (enters_of Tryz.func43 (by kernel_rfl) rfl) hn R2.out.1 (by
            intro i r W hr hbW
            rw [row_l hr]
            exact Feasible1_any r l0 W1.heap.size W ((R2.out.2 r (List.mem_of_getElem? hr)).below hbW) (by omega) ((hbW.cell (p := ⟨W1.heap.size, 0, none⟩) (by simp [z2])).trans q2)))
        have hok : okWords (rs.map BRow.l) = !anyI n (fun i => !wordB ((rs.map BRow.l).getD i []) l0) := by
          simp only [okWords, List.length_map, hn, e0.out, hl]
          simp only [show decide (1 ≤ n) = true from by simp; omega, show decide (n ≤ 64) = true from by simp; omega, show decide (l0 ≤ 1024) = true from by simp; omega, Bool.true_and]
        clear h64 hbig h hy q2 p1
        cases hany : anyI n (fun i => !wordB ((rs.map BRow.l).getD i []) l0) with
        | true =>
          rw [hany] at hok HCF
          have HS : Hid (feasS (rs.map BRow.l) y = (false, 2)) := okWords_no hok
          rw [HS.out]
          clear hn hm hW1 h0 hr0 hl hok hany hW2 z2 c1
          go_enter Tryz.func17, Tryz.ntmps17
          go_wp2_with fail
          rw [← HW1.out, ← HZ1.out, ← HW2.out]
          refine HCF.out.mono ?_
          rintro e w3 ⟨rfl, hb3⟩
          go_wp2_with fail
          go_ret2
          exact ⟨rfl, b02.trans (hb3.mono b02.size)⟩
        | false =>
          rw [hany] at hok HCF
          have HOK := Lib.hid hok
          have HR0 := Lib.hid hr0
          cases hcp : copyB y l0 with
          | false =>
            have HS : Hid (feasS (rs.map BRow.l) y = (false, 71)) := feasS_copy hok (by rw [e0.out, hl]; exact hcp)
            have HCP := Lib.hid hcp
            rw [HS.out]
            clear hn hm hW1 h0 hr0 hl hok hany hW2 z2 c1 hcp
            go_enter Tryz.func17, Tryz.ntmps17
            go_wp2_with fail
            rw [← HW1.out, ← HZ1.out, ← HW2.out]
            refine HCF.out.mono ?_
            rintro e w3 ⟨rfl, hb3⟩
            have q3 : w3.cell? ⟨W1.heap.size, 0, none⟩ = some (.int .i64 (l0 : Int)) := (hb3.cell (p := ⟨W1.heap.size, 0, none⟩) (by simp [HZ2.out])).trans (by rw [HW2.out]; simp)
            go_wp2_with (go_at_call 45; refine (isCopy_any Y d y l0 _ HM.out (Y2.out.below hb3) (by omega)).mono ?_; rintro e w4 ⟨rfl, hb4⟩; rw [HCP.out])
            go_ret2
            exact ⟨rfl, b02.trans ((hb3.trans (hb4.mono hb3.size)).mono b02.size)⟩
          | true =>
            have HS : Hid (feasS (rs.map BRow.l) y = (isFeas (rs.map BRow.l) y, 0)) := feasS_yes hok (by rw [e0.out, hl]; exact hcp)
            have HCP := Lib.hid hcp
            have hyl : y.length = l0 := copyB_len hcp
            have HYL : Hid (m = l0) := by unfold Hid; omega
            have HWL : Hid (∀ (i : Nat) (r : BRow), rs[i]? = some r → r.l.length = l0) := fun i r hr => by
              have hi : i < rs.length := by
                rcases Nat.lt_or_ge i rs.length with h' | h'
                · exact h'
                · rw [List.getElem?_eq_none h'] at hr; cases hr
              have := (okWords_parts hok).2.2.2 i (by simpa using hi)
              rw [row_l hr, e0.out] at this
              have := wordB_len this
              omega
            rw [HS.out]
            clear hn hm hW1 h0 hr0 hl hok hany hW2 z2 c1 hcp hyl
            go_enter Tryz.func17, Tryz.ntmps17
            go_wp2_with fail
            rw [← HW1.out, ← HZ1.out, ← HW2.out]
            refine HCF.out.mono ?_
            rintro e w3 ⟨rfl, hb3⟩
            have q3 : w3.cell? ⟨W1.heap.size, 0, none⟩ = some (.int .i64 (l0 : Int)) := (hb3.cell (p := ⟨W1.heap.size, 0, none⟩) (by simp [HZ2.out])).trans (by rw [HW2.out]; simp)
            go_wp2_with (go_at_call 45; refine (isCopy_any Y d y l0 _ HM.out (Y2.out.below hb3) (by omega)).mono ?_; rintro e w4 ⟨rfl, hb4⟩; rw [HCP.out])
            have hb34 := hb3.trans (hb4.mono hb3.size)
            have hb24 : Below W2.heap.size W2 w4 := hb34
            have hb04 := b02.trans (hb24.mono b02.size)
            have p4 : Hid (w4.cell? ⟨w.heap.size, 0, none⟩ = some (.slice (some ⟨b, off, none⟩) n c)) := (hb24.cell (p := ⟨w.heap.size, 0, none⟩) (by simp [HZ1.out, HZ2.out]; omega)).trans p2
            have z4 : Hid (w.heap.size + 2 ≤ w4.heap.size) := by have := hb24.size; have := HZ1.out; have := HZ2.out; unfold Hid; omega
            clear q3 p2
            go_loopw [38] (fun vk wr => ∃ k : Nat, k ≤ m ∧ vk = .int .i64 k ∧ Hid (∀ j, j < k → bt y j = bt (hd (rs.map BRow.l)) j ∨ oddB (rs.map BRow.l) j = true) ∧ Below w4.heap.size w4 wr) (fun vk _ => m - (intOf vk).toNat)
            case atStart => exact ⟨0, by omega, rfl, fun j hj => absurd hj (by omega), Below.refl _ _⟩
            case round =>
              obtain ⟨k, hk, rfl, HK, hbel⟩ := hrel
              have hb0r := hb04.trans (hbel.mono hb04.size)
              by_cases hkm : k < m
              · obtain ⟨yb, yo, rfl, hyb, hyc⟩ := (HY.out.below hb0r).at_ (i := k) (by have := HM.out; omega)
                have hml : (m : Int) ≤ 140737488351232 := by have := HY.out.len; have := HM.out; omega
                have hx := bt_le y k
                obtain ⟨W4, hW4⟩ : ∃ W : World, W = wr.alloc (.cells #[.int .i64 (k : Int)] 3) := ⟨_, rfl⟩
                have b4 : Below wr.heap.size wr W4 := by rw [hW4]; exact alloc_bel _ _
                have HW4 := Lib.hid hW4
                have b44 := hbel.trans (b4.mono hbel.size)
                have b04 := hb04.trans (b44.mono hb04.size)
                have RW := Lib.hid (H.out.below b04)
                have d1 : W4.cell? ⟨wr.heap.size, 0, none⟩ = some (.int .i64 (k : Int)) := by rw [hW4]; simp
                have d2 : W4.cell? ⟨w.heap.size, 0, none⟩ = some (.slice (some ⟨b, off, none⟩) n c) := (b44.cell (p := ⟨w.heap.size, 0, none⟩) (by have := z4.out; simp; omega)).trans p4.out
                have d3 : W4.cell? ⟨b, off, none⟩ = some (.slice r0.A l0 r0.c) := (b04.cell (p := ⟨b, off, none⟩) hb).trans hc0
                have hz4 : wr.heap.size < W4.heap.size := by rw [hW4]; simp
                have hzw : w.heap.size < W4.heap.size := by have := z4.out; have := b44.size; omega
                obtain ⟨fb, fo, e1, hfb, hfc⟩ := (hR0.below b04).at_ (i := k) (by have := HL.out; have := HYL.out; omega)
                have hx0 := bt_le r0.l k
                have hkl : (k : Int) < l0 := by have := HYL.out; omega
                have hki : (k : Int) < m := by omega
                have HY1 : Hid (bt (hd (rs.map BRow.l)) k = bt r0.l k) := by unfold Hid; rw [e0.out]
                obtain ⟨A0, cc0, l0'⟩ := r0
                dsimp only at e1 hfc hx0 HY1 d3 HL hc0
                subst e1
                rw [← HYL.out] at d3 hkl
                by_cases heq : bt y k = bt l0' k
                · have HK2 : Hid (∀ j, j < k + 1 → bt y j = bt (hd (rs.map BRow.l)) j ∨ oddB (rs.map BRow.l) j = true) := fun j hj => by
                    rcases Nat.lt_or_ge j k with h' | h'
                    · exact HK.out j h'
                    · rw [show j = k from by omega, HY1.out]; exact .inl heq
                  rw [← heq] at hfc
                  generalize bt y k = x at *
                  clear hR0 hW4 hc0 heq
                  go_wp2_with fail
                  rw [← HW4.out]
                  go_quiet (fail)
                  go_wp2_with fail
                  go_roundw
                  case rel => exact ⟨k + 1, by omega, by go_num, HK2, below_drewN b44 _⟩
                  case measure => simp [intOf]; omega
                · have HNE := Lib.hid heq
                  have g1 : ((bt y k : Int) != (bt l0' k : Int)) = true := by rw [bne_iff_ne]; omega
                  have g1' : (bt y k != bt l0' k) = true := by rw [bne_iff_ne]; exact heq
                  have HOD : Hid (anyI n (fun j => bt ((rs.map BRow.l).getD j []) k != bt (hd (rs.map BRow.l)) k) = oddB (rs.map BRow.l) k) := by unfold Hid oddB; rw [List.length_map, HN.out]
                  have HCO0 := fun (x : Wd W4) => ContainsRows_any (some ⟨b, off, none⟩) c rs 46 #[.pointer (some ⟨wr.heap.size, 0, none⟩), .pointer (some ⟨w.heap.size, 0, none⟩)] (fun j => bt ((rs.map BRow.l).getD j []) k != bt (hd (rs.map BRow.l)) k) x.w
                    (enters_of Tryz.func46 (by kernel_rfl) rfl) HN.out (RW.out.below x.h).1 (by
                      intro i r W hr hbW
                      have hbW' := x.h.trans (hbW.mono x.h.size)
                      rw [row_l hr]
                      have hrl := HWL.out i r hr
                      have hyl := HYL.out
                      exact Feasible2_any (some ⟨b, off, none⟩) c rs r k wr.heap.size w.heap.size W HN.out (RW.out.below hbW') ((RW.out.2 r (List.mem_of_getElem? hr)).below hbW') (by omega) (by have := e0.out; have := HWL.out 0 _ HR0.out; rw [e0.out]; omega) (by have := HN.out; omega)
                        ((hbW'.cell (p := ⟨wr.heap.size, 0, none⟩) hz4).trans d1) ((hbW'.cell (p := ⟨w.heap.size, 0, none⟩) hzw).trans d2))
                  rw [HOD.out] at HCO0
                  have HCO := Lib.hid HCO0
                  have f1 : ∀ x : Wd W4, x.w.cell? ⟨wr.heap.size, 0, none⟩ = some (.int .i64 (k : Int)) := fun x => (x.h.cell (p := ⟨wr.heap.size, 0, none⟩) hz4).trans d1
                  have f2 : ∀ x : Wd W4, x.w.cell? ⟨w.heap.size, 0, none⟩ = some (.slice (some ⟨b, off, none⟩) n c) := fun x => (x.h.cell (p := ⟨w.heap.size, 0, none⟩) hzw).trans d2
                  have f3 : ∀ x : Wd W4, x.w.cell? ⟨b, off, none⟩ = some (.slice (some ⟨fb, fo, none⟩) m cc0) := fun x => (x.h.cell (p := ⟨b, off, none⟩) (Nat.lt_of_lt_of_le hb b04.size)).trans d3
                  have f4 : ∀ x : Wd W4, x.w.cell? ⟨fb, fo + k, none⟩ = some (.int .u8 (bt l0' k : Int)) := fun x => (x.h.cell (p := ⟨fb, fo + k, none⟩) hfb).trans hfc
                  cases hodd : oddB (rs.map BRow.l) k with
                  | true =>
                    rw [hodd] at HCO
                    have HK2 : Hid (∀ j, j < k + 1 → bt y j = bt (hd (rs.map BRow.l)) j ∨ oddB (rs.map BRow.l) j = true) := fun j hj => by
                      rcases Nat.lt_or_ge j k with h' | h'
                      · exact HK.out j h'
                      · rw [show j = k from by omega]; exact .inr hodd
                    generalize bt y k = x at *
                    generalize bt l0' k = x' at *
                    clear hR0 hW4 hc0 heq HCO0 hodd
                    go_wp2_with fail
                    rw [← HW4.out]
                    refine wp_region_wd (by kernel_rfl) (by kernel_rfl) ?_
                    repeat (go_big_quiet_step ((go_at_call 42; exact Wd.call _ (HCO.out _))))
                    refine wpQuiet_nil ?_
                    intro _ hw'
                    obtain ⟨xx, hw''⟩ := hw'
                    subst hw''
                    go_wp2_with fail
                    go_roundw
                    case rel => exact ⟨k + 1, by omega, by go_num, HK2, b44.trans (xx.h.mono b44.size)⟩
                    case measure => simp [intOf]; omega
                  | false =>
                    rw [hodd] at HCO
                    have HF : Hid (isFeas (rs.map BRow.l) y = false) := isFeas_no (k := k) (by have := HM.out; omega) (by rw [HY1.out]; exact heq) hodd
                    generalize bt y k = x at *
                    generalize bt l0' k = x' at *
                    clear hR0 hW4 hc0 heq HCO0 hodd
                    go_wp2_with fail
                    rw [← HW4.out]
                    refine wp_region_wd (by kernel_rfl) (by kernel_rfl) ?_
                    repeat (go_big_quiet_step ((go_at_call 42; exact Wd.call _ (HCO.out _))))
                    refine wpQuiet_nil ?_
                    intro _ hw'
                    obtain ⟨xx, hw''⟩ := hw'
                    subst hw''
                    go_wp2_with fail
                    go_ret2
                    exact ⟨by rw [HF.out]; rfl, b04.trans (xx.h.mono b04.size)⟩
              · have HT : Hid (isFeas (rs.map BRow.l) y = true) := isFeas_yes fun j hj => HK.out j (by have := HM.out; omega)
                go_wp2_with fail
                go_ret2
                exact ⟨by rw [HT.out]; rfl, hb0r⟩
end Go.Proofs.YtchnaimpmegbkaaGreatDoor

/- Copies brought to what a coalition's words have in common: in plain words. -/
namespace Go.Proofs.YtchnaimpmegbkaaGreatDoor
open Go.RowKit
set_option linter.unusedVariables false
set_option linter.unusedSimpArgs false

theorem copyB_sym {l : List UInt8} {n : Nat} (h : copyB l n = true) : l.length = n ∧ ∀ i, i < n → bt l i ≤ 2 := by
  simp only [copyB, Bool.and_eq_true, decide_eq_true_eq] at h
  exact ⟨h.1, fun i hi => symB_iff.1 h.2 i (by omega)⟩
theorem wordB_sym {l : List UInt8} {n : Nat} (h : wordB l n = true) : l.length = n ∧ ∀ i, i < n → bt l i ≤ 1 := by
  simp only [wordB, Bool.and_eq_true, decide_eq_true_eq] at h
  exact ⟨h.1, fun i hi => symB_iff.1 h.2 i (by omega)⟩

/-- Whether the first k words agree at a place with the first of them. -/
def agreeK (ws : List (List UInt8)) (i : Nat) : Nat → Bool
  | 0 => true
  | k + 1 => agreeK ws i k && decide (bt (ws.getD k []) i = bt (hd ws) i)
theorem agreeK_iff {ws : List (List UInt8)} {i : Nat} : ∀ {k : Nat}, agreeK ws i k = true ↔ ∀ j, j < k → bt (ws.getD j []) i = bt (hd ws) i
  | 0 => by simp [agreeK]
  | k + 1 => by
    rw [agreeK, Bool.and_eq_true, agreeK_iff, decide_eq_true_eq]
    constructor
    · rintro ⟨h1, h2⟩ j hj
      by_cases e : j = k
      · subst e; exact h2
      · exact h1 j (by omega)
    · exact fun h => ⟨fun j hj => h j (by omega), h k (by omega)⟩
/-- The copy, below i, brought to what the words have in common. -/
def bring (ws : List (List UInt8)) (y : List UInt8) (n i : Nat) : List UInt8 := (List.range n).map fun j => if j < i ∧ agreeK ws j ws.length = true then (hd ws).getD j 0 else y.getD j 0
theorem bring_len (ws : List (List UInt8)) (y : List UInt8) (n i : Nat) : (bring ws y n i).length = n := by simp [bring]
theorem bring_zero (ws : List (List UInt8)) {y : List UInt8} {n : Nat} (h : y.length = n) : bring ws y n 0 = y := by
  refine List.ext_getElem (by simp [bring, h]) fun j h1 h2 => ?_
  simp [bring, List.getD_eq_getElem?_getD, List.getElem?_eq_getElem h2]
theorem bring_get (ws : List (List UInt8)) (y : List UInt8) (n i j : Nat) (hj : j < n) : (bring ws y n i).getD j 0 = if j < i ∧ agreeK ws j ws.length = true then (hd ws).getD j 0 else y.getD j 0 := by
  unfold bring
  rw [List.getD_eq_getElem?_getD, List.getElem?_map, List.getElem?_range hj]
  rfl
theorem bring_set {ws : List (List UInt8)} (y : List UInt8) (n i : Nat) (hi : i < n) (h2 : agreeK ws i ws.length = true) : (bring ws y n i).set i ((hd ws).getD i 0) = bring ws y n (i + 1) := by
  refine List.ext_getElem (by simp [bring]) fun j h1 h2' => ?_
  simp only [bring, List.getElem_set, List.getElem_map, List.getElem_range]
  by_cases e : i = j
  · subst e; simp [h2]
  · rw [if_neg e]
    have : (j < i) ↔ (j < i + 1) := by omega
    simp [this]
theorem bring_keep {ws : List (List UInt8)} (y : List UInt8) (n i : Nat) (h2 : agreeK ws i ws.length = false) : bring ws y n i = bring ws y n (i + 1) := by
  refine List.map_congr_left fun j _ => ?_
  by_cases e : j = i
  · subst e; simp [h2]
  · have : (j < i) ↔ (j < i + 1) := by omega
    simp [this]
theorem hd_bit {ws : List (List UInt8)} (h : okWords ws = true) (i : Nat) (hi : i < (hd ws).length) : bt (hd ws) i ≤ 1 := by
  obtain ⟨h1, h2, h3, h4⟩ := okWords_parts h
  have := h4 0 (by omega)
  simp only [wordB, Bool.and_eq_true, decide_eq_true_eq] at this
  exact symB_iff.1 this.2 i hi
theorem bring_copy {ws : List (List UInt8)} {y : List UInt8} {n : Nat} (h : okWords ws = true) (hn : (hd ws).length = n) (hy : copyB y n = true) (k : Nat) : copyB (bring ws y n k) n = true := by
  obtain ⟨hyn, hcy⟩ := copyB_sym hy
  unfold copyB
  rw [Bool.and_eq_true, decide_eq_true_eq]
  refine ⟨bring_len _ _ _ _, symB_iff.2 fun i hi => ?_⟩
  rw [bring_len] at hi
  unfold bt
  rw [bring_get _ _ _ _ _ hi]
  split
  · exact Nat.le_trans (hd_bit h i (by omega)) (by omega)
  · exact hcy i hi
theorem bring_feas {ws : List (List UInt8)} {y : List UInt8} {n : Nat} (h : okWords ws = true) (hn : (hd ws).length = n) (hy : copyB y n = true) : feasS ws (bring ws y n n) = (true, 0) := by
  rw [feasS_yes h (by rw [hn]; exact bring_copy h hn hy n)]
  rw [isFeas_yes fun k hk => ?_]
  rw [bring_len] at hk
  cases ha : agreeK ws k ws.length
  · refine .inr ?_
    apply Classical.byContradiction
    intro hno
    have : agreeK ws k ws.length = true := agreeK_iff.2 fun j hj => by
      apply Classical.byContradiction
      intro hne
      exact hno (anyI_iff.2 ⟨j, hj, by simpa using hne⟩)
    rw [ha] at this
    cases this
  · refine .inl ?_
    unfold bt
    rw [bring_get _ _ _ _ _ hk, if_pos ⟨hk, ha⟩]
/-- The members of a coalition below x. -/
def coal (C : Nat) : Nat → List Nat
  | 0 => []
  | x + 1 => if C.testBit x = true then coal C x ++ [x] else coal C x
theorem coal_mem {C : Nat} : ∀ {n x : Nat}, x ∈ coal C n ↔ x < n ∧ C.testBit x = true
  | 0, x => by simp [coal]
  | n + 1, x => by
    rw [coal]
    split
    · rename_i h
      rw [List.mem_append, coal_mem, List.mem_singleton]
      constructor
      · rintro (⟨h1, h2⟩ | rfl)
        · exact ⟨by omega, h2⟩
        · exact ⟨by omega, h⟩
      · rintro ⟨h1, h2⟩
        by_cases e : x = n
        · exact .inr e
        · exact .inl ⟨by omega, h2⟩
    · rename_i h
      rw [coal_mem]
      constructor
      · rintro ⟨h1, h2⟩; exact ⟨by omega, h2⟩
      · rintro ⟨h1, h2⟩
        by_cases e : x = n
        · subst e; exact absurd h2 h
        · exact ⟨by omega, h2⟩
theorem coal_len (C : Nat) : ∀ n, (coal C n).length ≤ n
  | 0 => Nat.le_refl _
  | n + 1 => by
    have := coal_len C n
    rw [coal]
    split
    · simp; omega
    · omega
theorem coal_yes {C u : Nat} (h : C.testBit u = true) : (coal C (u + 1)).length = (coal C u).length + 1 := by rw [coal, if_pos h]; simp
theorem coal_no {C u : Nat} (h : C.testBit u = false) : coal C (u + 1) = coal C u := by rw [coal, if_neg (by rw [h]; simp)]
theorem and_u16 {a b : Nat} (ha : a < 65536) (hb : b < 65536) : bits BinOp.and IntKind.u16 (a : Int) (b : Int) = ((a &&& b : Nat) : Int) := by
  have e : ∀ n : Nat, n < 65536 → (BitVec.ofInt 16 (n : Int)).toNat = n := fun n hn => by
    rw [BitVec.ofInt_natCast, BitVec.toNat_ofNat, Nat.mod_eq_of_lt hn]
  show IntKind.u16.wrap (((BitVec.ofInt 16 (a : Int)) &&& (BitVec.ofInt 16 (b : Int))).toNat : Int) = _
  rw [BitVec.toNat_and, e a ha, e b hb, IntKind.wrap_u16]
  have := Nat.lt_of_le_of_lt (Nat.and_le_left (n := a) (m := b)) ha
  omega
/-- One bit of a coalition, as the program takes it. -/
theorem bit_u16 {C : Nat} (hC : C < 65536) (u : Nat) : ∃ q bb : Nat, (C : Int) / (2 : Int) ^ u = (q : Int) ∧ bits BinOp.and IntKind.u16 (q : Int) 1 = (bb : Int) ∧ (bb = 0 ∨ bb = 1) ∧ C.testBit u = decide (bb = 1) ∧ q < 65536 := by
  have hq : C / 2 ^ u < 65536 := Nat.lt_of_le_of_lt (Nat.div_le_self _ _) hC
  have h2 : C / 2 ^ u % 2 < 2 := Nat.mod_lt _ (by omega)
  refine ⟨C / 2 ^ u, C / 2 ^ u % 2, by rw [Int.natCast_ediv]; simp, ?_, by omega, Nat.testBit_eq_decide_div_mod_eq, hq⟩
  have := and_u16 (a := C / 2 ^ u) (b := 1) hq (by decide)
  rw [Nat.and_one_is_mod] at this
  exact this
end Go.Proofs.YtchnaimpmegbkaaGreatDoor
