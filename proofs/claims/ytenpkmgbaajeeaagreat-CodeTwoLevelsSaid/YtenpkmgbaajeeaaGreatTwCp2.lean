/-
  Lemmas and contracts, joined.
-/
import Derived.Test.YtenpkmgbaajeeaaGreatTwCp1
import Derived.Test.YtenpkmgbaajeeaaGreatTwCs1
import Derived.Test.YtenpkmgbaajeeaaGreatTwCt2
import Derived.Test.YtenpkmgbaajeeaaGreatTwCt1
set_option linter.unusedSimpArgs false
set_option linter.unusedVariables false
set_option linter.unnecessarySimpa false
/- Words, weights and names asked of a code of steps: the program's. -/
namespace Go.Proofs.YtenpkmgbaajeeaaGreat
open Go.RowKit
set_option linter.unusedVariables false
set_option linter.unusedSimpArgs false

def IntsErr (r : List Int × Int) (e : Ending) (w' : World) : Prop := ∃ A c, e = .returned (.tuple #[.slice A r.1.length c, .int .i64 r.2]) ∧ IR w' A c r.1
/-- The row is the call's own. -/
def WordOwn (B : Nat) (r : List UInt8 × Int) (e : Ending) (w' : World) : Prop := ∃ A c, e = .returned (.tuple #[.slice A r.1.length c, .int .i64 r.2]) ∧ OB B w' A c r.1
theorem wordOwn_nil (B : Nat) (w : World) (x : Int) {r : List UInt8 × Int} (h : r = ([], x)) : WordOwn B r (.returned (.tuple #[.slice none 0 0, .int .i64 x])) w := by
  subst h
  exact ⟨none, 0, rfl, OB.nil' _ _⟩
theorem intsErr_nil (w : World) (x : Int) {r : List Int × Int} (h : r = ([], x)) : IntsErr r (.returned (.tuple #[.slice none 0 0, .int .i64 x])) w := by
  subst h
  exact ⟨none, 0, rfl, (OI.nil 0 w).ir (by simp) (by simp)⟩
def IntsOwn (B : Nat) (r : List Int × Int) (e : Ending) (w' : World) : Prop := ∃ A c, e = .returned (.tuple #[.slice A r.1.length c, .int .i64 r.2]) ∧ OI B w' A c r.1
theorem intsOwn_nil (B : Nat) (w : World) (x : Int) {r : List Int × Int} (h : r = ([], x)) : IntsOwn B r (.returned (.tuple #[.slice none 0 0, .int .i64 x])) w := by
  subst h
  exact ⟨none, 0, rfl, OI.nil B w⟩
theorem blk_ir {w : World} {g : Nat} {l : List Nat} (h : Blk w g 3 (cellsL l).toArray) (hl : l.length ≤ 1000000) (hb : ∀ x ∈ l, x ≤ 1000000) : IR w (some ⟨g, 0, none⟩) l.length (natI l) :=
  (Blk.oi (l := natI l) (n := l.length) h (Nat.le_refl _) (by simp [natI]) rfl hl).ir (by simp [natI]; omega) (fun x hx => by
    obtain ⟨y, hy, rfl⟩ := List.mem_map.1 hx
    have := hb y hy
    omega)
def StV.wordR (s : StV) (x : Int) : List UInt8 × Int := if s.ok = false then ([], 70) else if x < 0 ∨ s.u ≤ x then ([], 2) else (s.word x.toNat, 0)
def StV.wtsR (s : StV) (y : List UInt8) : List Int × Int := if s.ok = false then ([], 70) else if copyB y s.n = false then ([], 71) else (natI (s.wts y), 0)
def StV.nmsR (s : StV) (y : List UInt8) : List Int × Int := if s.ok = false then ([], 70) else if copyB y s.n = false then ([], 71) else (s.nms y, 0)
theorem StV.word_len (s : StV) (x : Nat) : (s.word x).length = s.n := stepWord_length _ _ _
theorem StV.wts_small {s : StV} (hok : s.ok = true) (y : List UInt8) : ∀ x ∈ s.wts y, x ≤ 64 := fun x hx => by
  obtain ⟨i, hi, rfl⟩ := List.getElem_of_mem hx
  have h := StV.wts_le hok y i (by rw [← s.wts_len y]; exact hi)
  obtain ⟨⟨q1, q2, q3, q4⟩, _⟩ := StV.parts hok
  rw [List.getD_eq_getElem?_getD, List.getElem?_eq_getElem hi] at h
  simp only [Option.getD_some] at h
  omega
theorem StV.nms_small {s : StV} (hok : s.ok = true) (y : List UInt8) : (s.nms y).length ≤ 16 ∧ ∀ x ∈ s.nms y, 0 ≤ x ∧ x ≤ 16 := by
  obtain ⟨⟨q1, q2, q3, q4⟩, _⟩ := StV.parts hok
  refine ⟨Nat.le_trans (namesF_length _ _) (by omega), fun x hx => ?_⟩
  obtain ⟨u, hu, _, rfl⟩ := namesF_mem.1 hx
  omega
theorem cp_nat {y : List UInt8} {n : Nat} (h : copyB y n = true) : y.length = n := by
  unfold copyB at h
  simp only [Bool.and_eq_true, decide_eq_true_eq] at h
  exact h.1

set_option maxHeartbeats 4000000 in
set_option maxRecDepth 1000000 in
theorem StepWord_own (s : StV) (x : Int) (w : World) (h : StOK w s) (hx1 : -9223372036854775808 ≤ x) (hx2 : x ≤ 9223372036854775807) :
    Calls Tryz.prog 19 #[.agg s.cs.toArray, .int .i64 x] w fun e w' => WordOwn w.heap.size (s.wordR x) e w' ∧ Below w.heap.size w w' := by
  have hk := h.k16
  obtain ⟨W0, hW0⟩ : ∃ W : World, W = w.alloc (.cells s.cs.toArray 29) := ⟨_, rfl⟩
  have b0 : Hid (Below w.heap.size w W0) := by unfold Hid; rw [hW0]; exact alloc_below _ _
  have x0 : Hid (Blk W0 w.heap.size 29 s.cs.toArray) := by unfold Hid; rw [hW0]; exact Blk.new w _ _
  have HW0 := Lib.hid hW0
  have HIN := Lib.hid (StV.info (s := s) hk)
  cases hok : s.ok with
  | false =>
    have HSO : Hid (∀ W, Below w.heap.size w W → Calls Tryz.prog 66 #[.agg s.cs.toArray] W fun e w' => e = .returned (.tuple #[.pointer none, .int .i64 70]) ∧ Below W.heap.size W w') := fun W hW => stepsOf_bad s W (h.below hW) hok
    have HR : Hid (s.wordR x = ([], 70)) := by unfold Hid StV.wordR; rw [if_pos hok]
    generalize s.wordR x = r at HR ⊢
    generalize s.cs.toArray = cs at *
    clear h hok hk hW0
    go_enter Tryz.func19, Tryz.ntmps19
    go_wp2_with (first
      | (rw [← HW0.out])
      | (refine wpList_load_row rfl 29 (.tmp 2) rfl (w.heap.size) rfl 29 cs (0, 0) _ x0.out Tryz.underlying29 rfl HIN.out ?_)
      | (go_at_call 66; (with_reducible refine (HSO.out _ b0.out).mono ?_); rintro e w1 ⟨rfl, hb⟩; have D1 := Lib.hid (bel_on b0.out hb); clear hb))
    go_ret2
    exact ⟨wordOwn_nil _ _ _ HR.out, D1.out⟩
  | true =>
    have HSO : Hid (∀ W, Below w.heap.size w W → Calls Tryz.prog 66 #[.agg s.cs.toArray] W fun e w' => (∃ g ga, e = .returned (.tuple #[.pointer (some ⟨g, 0, none⟩), .int .i64 0]) ∧ Laid w' s g ga) ∧ Below W.heap.size W w') := fun W hW => stepsOf_good s W (h.below hW) hok
    have HC0 : Hid (∀ W, Below W0.heap.size W0 W → W.cell? ⟨w.heap.size, 0, none⟩ = some (.int .i64 s.u)) := fun W hW => (StV.cells hk (x0.out.below' hW)).1
    by_cases hin : 0 ≤ x ∧ x < s.u
    · obtain ⟨hx0, hxu⟩ := hin
      obtain ⟨n, rfl⟩ : ∃ n : Nat, x = (n : Int) := ⟨x.toNat, by omega⟩
      have HWD : Hid (∀ g ga W, Laid W s g ga → Calls Tryz.prog 67 #[.pointer (some ⟨g, 0, none⟩), .int .i64 (n : Int)] W fun e w' => e = .returned (.slice (some ⟨W.heap.size, 0, none⟩) s.n s.n) ∧ Blk w' W.heap.size 5 (cellsB (s.word n)).toArray ∧ Below W.heap.size W w') := fun g ga W hL => word_any s g ga n W hk hok hL hxu
      have HR : Hid (s.wordR (n : Int) = (s.word n, 0)) := by
        unfold Hid StV.wordR
        rw [if_neg (by rw [hok]; simp), if_neg (by omega), Int.toNat_natCast]
      have HWL : Hid ((s.word n).length = s.n) := s.word_len n
      have HNL : Hid (s.n ≤ 1000000) := by have := (StV.n_le hok).2.1; unfold Hid; omega
      have hnx : ¬ ((n : Int) < 0) := by omega
      have hnu : ¬ (s.u ≤ (n : Int)) := by omega
      have HF : Hid (∀ r e w', r = (s.word n, (0 : Int)) → (∃ g, w.heap.size ≤ g ∧ e = .returned (.tuple #[.slice (some ⟨g, 0, none⟩) s.n s.n, .int .i64 0]) ∧ Blk w' g 5 (cellsB (s.word n)).toArray) → WordOwn w.heap.size r e w') := fun r e w' hr ⟨g, hg, he, hB⟩ => by
        subst hr
        have hb := Blk.ob hB hg rfl rfl (by rw [HWL.out]; exact HNL.out)
        exact ⟨some ⟨g, 0, none⟩, (s.word n).length, by rw [he, HWL.out], hb⟩
      generalize s.wordR (n : Int) = r at HR ⊢
      generalize s.n = nn at HWD HF
      generalize s.u = u at *
      generalize s.cs.toArray = cs at *
      clear h hok hk hW0  HWL HNL
      go_enter Tryz.func19, Tryz.ntmps19
      go_wp2_with (first
        | (rw [← HW0.out])
        | (refine wpList_load_row rfl 29 (.tmp 2) rfl (w.heap.size) rfl 29 cs (0, 0) _ x0.out Tryz.underlying29 rfl HIN.out ?_)
        | (go_at_call 66; (with_reducible refine (HSO.out _ b0.out).mono ?_); rintro e w1 ⟨⟨g, ga, rfl, hL⟩, hb⟩; have D1 := Lib.hid (bel_on b0.out hb); have L1 := Lib.hid hL; have c0 := HC0.out _ hb; clear hb hL)
        | (go_at_call 67; (with_reducible refine (HWD.out _ _ _ L1.out).mono ?_); rintro e w2 ⟨rfl, hB, hb⟩; have D2 := Lib.hid (bel_on D1.out hb); have B2 := Lib.hid hB; clear hb hB))
      all_goals first | omega | (go_ret2; exact ⟨HF.out _ _ _ HR.out ⟨_, D1.out.size, rfl, B2.out⟩, D2.out⟩)
    · have HR : Hid (s.wordR x = ([], 2)) := by
        unfold Hid StV.wordR
        rw [if_neg (by rw [hok]; simp), if_pos (by omega)]
      generalize s.wordR x = r at HR ⊢
      generalize s.u = u at *
      generalize s.cs.toArray = cs at *
      clear h hok hk hW0 
      go_enter Tryz.func19, Tryz.ntmps19
      go_wp2_with (first
        | (rw [← HW0.out])
        | (refine wpList_load_row rfl 29 (.tmp 2) rfl (w.heap.size) rfl 29 cs (0, 0) _ x0.out Tryz.underlying29 rfl HIN.out ?_)
        | (go_at_call 66; (with_reducible refine (HSO.out _ b0.out).mono ?_); rintro e w1 ⟨⟨g, ga, rfl, hL⟩, hb⟩; have D1 := Lib.hid (bel_on b0.out hb); have c0 := HC0.out _ hb; clear hb hL))
      all_goals first | omega | (go_ret2; exact ⟨wordOwn_nil _ _ _ HR.out, D1.out⟩)
theorem clo_weights (p : Value) (w : World) : Calls Tryz.prog 71 #[p] w fun e w' => e = .returned (.func (.func 72) #[p] #[]) ∧ w' = w := by
  go_enter Tryz.func71, Tryz.ntmps71
  go_wp2_with fail
  go_ret
  exact ⟨rfl, rfl⟩
set_option maxHeartbeats 4000000 in
set_option maxRecDepth 1000000 in
theorem asked_weights (s : StV) (Y : Option Addr) (c : Nat) (y : List UInt8) (w : World) (h : StOK w s) {n0 : Nat} (hy : y.length = n0) (hY : BR w Y c y) :
    Calls Tryz.prog 70 #[.agg s.cs.toArray, .slice Y n0 c, .func (.func 71) #[] #[]] w fun e w' => IntsErr (s.wtsR y) e w' ∧ Below w.heap.size w w' := by
  have hk := h.k16
  obtain ⟨W0, hW0⟩ : ∃ W : World, W = w.alloc (.cells s.cs.toArray 29) := ⟨_, rfl⟩
  have b0 : Hid (Below w.heap.size w W0) := by unfold Hid; rw [hW0]; exact alloc_below _ _
  have x0 : Hid (Blk W0 w.heap.size 29 s.cs.toArray) := by unfold Hid; rw [hW0]; exact Blk.new w _ _
  have HW0 := Lib.hid hW0
  have HIN := Lib.hid (StV.info (s := s) hk)
  cases hok : s.ok with
  | false =>
    have HSO : Hid (∀ W, Below w.heap.size w W → Calls Tryz.prog 66 #[.agg s.cs.toArray] W fun e w' => e = .returned (.tuple #[.pointer none, .int .i64 70]) ∧ Below W.heap.size W w') := fun W hW => stepsOf_bad s W (h.below hW) hok
    have HR : Hid (s.wtsR y = ([], 70)) := by unfold Hid StV.wtsR; rw [if_pos hok]
    generalize s.wtsR y = r at HR ⊢
    generalize s.cs.toArray = cs at *
    clear h hok hk hW0 hy hY
    go_enter Tryz.func70, Tryz.ntmps70
    go_wp2_with (first
      | (rw [← HW0.out])
      | (refine wpList_load_row rfl 29 (.tmp 3) rfl (w.heap.size) rfl 29 cs (0, 0) _ x0.out Tryz.underlying29 rfl HIN.out ?_)
      | (go_at_call 66; (with_reducible refine (HSO.out _ b0.out).mono ?_); rintro e w1 ⟨rfl, hb⟩; have D1 := Lib.hid (bel_on b0.out hb); clear hb))
    go_ret2
    exact ⟨intsErr_nil _ _ HR.out, D1.out⟩
  | true =>
    have HSO : Hid (∀ W, Below w.heap.size w W → Calls Tryz.prog 66 #[.agg s.cs.toArray] W fun e w' => (∃ g ga, e = .returned (.tuple #[.pointer (some ⟨g, 0, none⟩), .int .i64 0]) ∧ Laid w' s g ga) ∧ Below W.heap.size W w') := fun W hW => stepsOf_good s W (h.below hW) hok
    have HLC : Hid (∀ W g ga, Laid W s g ga → W.cell? ⟨g, 20, none⟩ = some (.slice (some ⟨ga, 0, none⟩) s.n s.n)) := fun W g ga hL => (hL.cells hk).2.2
    have HLB : Hid (∀ W W' g ga, Laid W s g ga → Below W.heap.size W W' → Laid W' s g ga) := fun W W' g ga hL hb => hL.below hb
    have hnl := (StV.n_le hok).2.1
    have HCP : Hid (∀ W, Below w.heap.size w W → Calls Tryz.prog 93 #[.slice Y n0 c, .int .i64 (s.n : Int)] W fun e w' => e = .returned (.bool (copyB y s.n)) ∧ Below W.heap.size W w') := fun W hW => isCopy_any Y c y s.n W hy (hY.below hW) (by omega)
    cases hc : copyB y s.n with
    | false =>
      have HR : Hid (s.wtsR y = ([], 71)) := by unfold Hid StV.wtsR; rw [if_neg (by rw [hok]; simp), if_pos hc]
      rw [hc] at HCP
      generalize s.wtsR y = r at HR ⊢
      generalize s.n = n at *
      generalize s.cs.toArray = cs at *
      clear h hok hk hW0 hy hY  hc hnl
      go_enter Tryz.func70, Tryz.ntmps70
      go_wp2_with (first
        | (rw [← HW0.out])
        | (refine wpList_load_row rfl 29 (.tmp 3) rfl (w.heap.size) rfl 29 cs (0, 0) _ x0.out Tryz.underlying29 rfl HIN.out ?_)
        | (go_at_call 66; (with_reducible refine (HSO.out _ b0.out).mono ?_); rintro e w1 ⟨⟨g, ga, rfl, hL⟩, hb⟩; have D1 := Lib.hid (bel_on b0.out hb); have c20 := HLC.out _ _ _ hL; clear hb hL)
        | (go_at_call 93; (with_reducible refine (HCP.out _ D1.out).mono ?_); rintro e w2 ⟨rfl, hb⟩; have D2 := Lib.hid (bel_on D1.out hb); clear hb))
      go_ret2
      exact ⟨intsErr_nil _ _ HR.out, D2.out⟩
    | true =>
      have HR : Hid (s.wtsR y = (natI (s.wts y), 0)) := by unfold Hid StV.wtsR; rw [if_neg (by rw [hok]; simp), if_neg (by rw [hc]; simp)]
      have HYW : Hid (∀ W, Below w.heap.size w W → BR W Y c y) := fun W hW => hY.below hW
      have HSW : Hid (∀ W, Below w.heap.size w W → StOK W s) := fun W hW => h.below hW
      have HM : Hid (∀ g ga W, Laid W s g ga → StOK W s → BR W Y c y → Calls Tryz.prog 72 #[.pointer (some ⟨g, 0, none⟩), .slice Y s.n c] W fun e w' => (∃ A c', e = .returned (.slice A (natI (s.wts y)).length c') ∧ IR w' A c' (natI (s.wts y))) ∧ Below W.heap.size W w') := fun g ga W hL hS hB => by
        refine (weights_any s g ga Y c y W hk hok hL (cp_nat hc) rfl hB).mono ?_
        rintro e w' ⟨rfl, hb, hd⟩
        have hl : (natI (s.wts y)).length = s.u.toNat - 1 := by simp [natI, s.wts_len]
        have := blk_ir hb (by rw [s.wts_len]; have := (StV.parts hok).1; omega) (fun x hx => by have := StV.wts_small hok y x hx; omega)
        rw [s.wts_len] at this
        exact ⟨⟨_, _, by rw [hl], this⟩, hd⟩
      rw [hc] at HCP
      have hyn := cp_nat hc
      have HF : Hid (∀ r e w', r = (natI (s.wts y), (0 : Int)) → (∃ A c', e = .returned (.tuple #[.slice A (natI (s.wts y)).length c', .int .i64 0]) ∧ IR w' A c' (natI (s.wts y))) → IntsErr r e w') := fun r e w' hr ⟨A, c', he, hB⟩ => by
        subst hr
        exact ⟨A, c', he, hB⟩
      obtain rfl : n0 = s.n := by omega
      generalize s.wtsR y = r at HR ⊢
      generalize s.n = n at *
      generalize s.cs.toArray = cs at *
      generalize natI (s.wts y) = vl at HR HM HF
      clear h hok hk hW0 hy hY  hc hnl hyn
      go_enter Tryz.func70, Tryz.ntmps70
      go_wp2_with (first
        | (rw [← HW0.out])
        | (refine wpList_load_row rfl 29 (.tmp 3) rfl (w.heap.size) rfl 29 cs (0, 0) _ x0.out Tryz.underlying29 rfl HIN.out ?_)
        | (go_at_call 66; (with_reducible refine (HSO.out _ b0.out).mono ?_); rintro e w1 ⟨⟨g, ga, rfl, hL⟩, hb⟩; have D1 := Lib.hid (bel_on b0.out hb); have c20 := HLC.out _ _ _ hL; have L1 := Lib.hid hL; clear hb hL)
        | (go_at_call 93; (with_reducible refine (HCP.out _ D1.out).mono ?_); rintro e w2 ⟨rfl, hb⟩; have D2 := Lib.hid (bel_on D1.out hb); have L2 := Lib.hid (HLB.out _ _ _ _ L1.out hb); clear hb)
        | (go_at_call 71; (with_reducible refine (clo_weights _ _).mono ?_); rintro e w3 ⟨rfl, rfl⟩)
        | (go_at_call 72; (with_reducible refine (HM.out _ _ _ L2.out (HSW.out _ D2.out) (HYW.out _ D2.out)).mono ?_); rintro e w4 ⟨⟨A, c', rfl, hI⟩, hb⟩; have D4 := Lib.hid (bel_on D2.out hb); have I4 := Lib.hid hI; clear hb hI))
      go_ret2
      exact ⟨HF.out _ _ _ HR.out ⟨_, _, rfl, I4.out⟩, D4.out⟩

set_option maxHeartbeats 4000000 in
set_option maxRecDepth 1000000 in
theorem Weights_any (s : StV) (Y : Option Addr) (c : Nat) (y : List UInt8) (w : World) (h : StOK w s) {n0 : Nat} (hy : y.length = n0) (hY : BR w Y c y) :
    Calls Tryz.prog 23 #[.agg s.cs.toArray, .slice Y n0 c] w fun e w' => IntsErr (s.wtsR y) e w' ∧ Below w.heap.size w w' := by
  have hk := h.k16
  obtain ⟨W0, hW0⟩ : ∃ W : World, W = w.alloc (.cells s.cs.toArray 29) := ⟨_, rfl⟩
  have b0 : Hid (Below w.heap.size w W0) := by unfold Hid; rw [hW0]; exact alloc_below _ _
  have x0 : Hid (Blk W0 w.heap.size 29 s.cs.toArray) := by unfold Hid; rw [hW0]; exact Blk.new w _ _
  have HW0 := Lib.hid hW0
  have HIN := Lib.hid (StV.info (s := s) hk)
  have HAS : Hid (∀ W, Below w.heap.size w W → Calls Tryz.prog 70 #[.agg s.cs.toArray, .slice Y n0 c, .func (.func 71) #[] #[]] W fun e w' => IntsErr (s.wtsR y) e w' ∧ Below W.heap.size W w') := fun W hW => asked_weights s Y c y W (h.below hW) hy (hY.below hW)
  have HF : Hid (∀ r e w', (∃ A c, e = .returned (.tuple #[.slice A (r : List Int × Int).1.length c, .int .i64 r.2]) ∧ IR w' A c r.1) → IntsErr r e w') := fun r e w' h => h
  generalize s.wtsR y = r at HAS ⊢
  generalize s.cs.toArray = cs at *
  clear h hk hW0 hy hY
  go_enter Tryz.func23, Tryz.ntmps23
  go_wp2_with (first
    | (rw [← HW0.out])
    | (refine wpList_load_row rfl 29 (.tmp 2) rfl (w.heap.size) rfl 29 cs (0, 0) _ x0.out Tryz.underlying29 rfl HIN.out ?_)
    | (go_at_call 70; (with_reducible refine (HAS.out _ b0.out).mono ?_); rintro e w1 ⟨⟨A, c', rfl, hI⟩, hb⟩; have D1 := Lib.hid (bel_on b0.out hb); have I1 := Lib.hid hI; clear hb hI))
  go_ret2
  exact ⟨HF.out _ _ _ ⟨A, c', rfl, I1.out⟩, D1.out⟩

theorem clo_names (p : Value) (w : World) : Calls Tryz.prog 74 #[p] w fun e w' => e = .returned (.func (.func 75) #[p] #[]) ∧ w' = w := by
  go_enter Tryz.func74, Tryz.ntmps74
  go_wp2_with fail
  go_ret
  exact ⟨rfl, rfl⟩
set_option maxHeartbeats 4000000 in
set_option maxRecDepth 1000000 in
theorem asked_names_own (s : StV) (Y : Option Addr) (c : Nat) (y : List UInt8) (w : World) (h : StOK w s) {n0 : Nat} (hy : y.length = n0) (hY : BR w Y c y) :
    Calls Tryz.prog 70 #[.agg s.cs.toArray, .slice Y n0 c, .func (.func 74) #[] #[]] w fun e w' => IntsOwn w.heap.size (s.nmsR y) e w' ∧ Below w.heap.size w w' := by
  have hk := h.k16
  obtain ⟨W0, hW0⟩ : ∃ W : World, W = w.alloc (.cells s.cs.toArray 29) := ⟨_, rfl⟩
  have b0 : Hid (Below w.heap.size w W0) := by unfold Hid; rw [hW0]; exact alloc_below _ _
  have x0 : Hid (Blk W0 w.heap.size 29 s.cs.toArray) := by unfold Hid; rw [hW0]; exact Blk.new w _ _
  have HW0 := Lib.hid hW0
  have HIN := Lib.hid (StV.info (s := s) hk)
  cases hok : s.ok with
  | false =>
    have HSO : Hid (∀ W, Below w.heap.size w W → Calls Tryz.prog 66 #[.agg s.cs.toArray] W fun e w' => e = .returned (.tuple #[.pointer none, .int .i64 70]) ∧ Below W.heap.size W w') := fun W hW => stepsOf_bad s W (h.below hW) hok
    have HR : Hid (s.nmsR y = ([], 70)) := by unfold Hid StV.nmsR; rw [if_pos hok]
    generalize s.nmsR y = r at HR ⊢
    generalize s.cs.toArray = cs at *
    clear h hok hk hW0 hy hY
    go_enter Tryz.func70, Tryz.ntmps70
    go_wp2_with (first
      | (rw [← HW0.out])
      | (refine wpList_load_row rfl 29 (.tmp 3) rfl (w.heap.size) rfl 29 cs (0, 0) _ x0.out Tryz.underlying29 rfl HIN.out ?_)
      | (go_at_call 66; (with_reducible refine (HSO.out _ b0.out).mono ?_); rintro e w1 ⟨rfl, hb⟩; have D1 := Lib.hid (bel_on b0.out hb); clear hb))
    go_ret2
    exact ⟨intsOwn_nil _ _ _ HR.out, D1.out⟩
  | true =>
    have HSO : Hid (∀ W, Below w.heap.size w W → Calls Tryz.prog 66 #[.agg s.cs.toArray] W fun e w' => (∃ g ga, e = .returned (.tuple #[.pointer (some ⟨g, 0, none⟩), .int .i64 0]) ∧ Laid w' s g ga) ∧ Below W.heap.size W w') := fun W hW => stepsOf_good s W (h.below hW) hok
    have HLC : Hid (∀ W g ga, Laid W s g ga → W.cell? ⟨g, 20, none⟩ = some (.slice (some ⟨ga, 0, none⟩) s.n s.n)) := fun W g ga hL => (hL.cells hk).2.2
    have HLB : Hid (∀ W W' g ga, Laid W s g ga → Below W.heap.size W W' → Laid W' s g ga) := fun W W' g ga hL hb => hL.below hb
    have hnl := (StV.n_le hok).2.1
    have HCP : Hid (∀ W, Below w.heap.size w W → Calls Tryz.prog 93 #[.slice Y n0 c, .int .i64 (s.n : Int)] W fun e w' => e = .returned (.bool (copyB y s.n)) ∧ Below W.heap.size W w') := fun W hW => isCopy_any Y c y s.n W hy (hY.below hW) (by omega)
    cases hc : copyB y s.n with
    | false =>
      have HR : Hid (s.nmsR y = ([], 71)) := by unfold Hid StV.nmsR; rw [if_neg (by rw [hok]; simp), if_pos hc]
      rw [hc] at HCP
      generalize s.nmsR y = r at HR ⊢
      generalize s.n = n at *
      generalize s.cs.toArray = cs at *
      clear h hok hk hW0 hy hY  hc hnl
      go_enter Tryz.func70, Tryz.ntmps70
      go_wp2_with (first
        | (rw [← HW0.out])
        | (refine wpList_load_row rfl 29 (.tmp 3) rfl (w.heap.size) rfl 29 cs (0, 0) _ x0.out Tryz.underlying29 rfl HIN.out ?_)
        | (go_at_call 66; (with_reducible refine (HSO.out _ b0.out).mono ?_); rintro e w1 ⟨⟨g, ga, rfl, hL⟩, hb⟩; have D1 := Lib.hid (bel_on b0.out hb); have c20 := HLC.out _ _ _ hL; clear hb hL)
        | (go_at_call 93; (with_reducible refine (HCP.out _ D1.out).mono ?_); rintro e w2 ⟨rfl, hb⟩; have D2 := Lib.hid (bel_on D1.out hb); clear hb))
      go_ret2
      exact ⟨intsOwn_nil _ _ _ HR.out, D2.out⟩
    | true =>
      have HR : Hid (s.nmsR y = (s.nms y, 0)) := by unfold Hid StV.nmsR; rw [if_neg (by rw [hok]; simp), if_neg (by rw [hc]; simp)]
      have HYW : Hid (∀ W, Below w.heap.size w W → BR W Y c y) := fun W hW => hY.below hW
      have HSW : Hid (∀ W, Below w.heap.size w W → StOK W s) := fun W hW => h.below hW
      have HM : Hid (∀ g ga W, Laid W s g ga → StOK W s → BR W Y c y → Calls Tryz.prog 75 #[.pointer (some ⟨g, 0, none⟩), .slice Y s.n c] W fun e w' => (∃ A c', e = .returned (.slice A (s.nms y).length c') ∧ OI W.heap.size w' A c' (s.nms y)) ∧ Below W.heap.size W w') := fun g ga W hL hS hB => names_any s g ga Y c y W hS hok hL (cp_nat hc) rfl hB
      rw [hc] at HCP
      have hyn := cp_nat hc
      have HF : Hid (∀ r e w', r = (s.nms y, (0 : Int)) → (∃ A c', e = .returned (.tuple #[.slice A (s.nms y).length c', .int .i64 0]) ∧ OI w.heap.size w' A c' (s.nms y)) → IntsOwn w.heap.size r e w') := fun r e w' hr ⟨A, c', he, hB⟩ => by
        subst hr
        exact ⟨A, c', he, hB⟩
      obtain rfl : n0 = s.n := by omega
      generalize s.nmsR y = r at HR ⊢
      generalize s.n = n at *
      generalize s.cs.toArray = cs at *
      generalize s.nms y = vl at HR HM HF
      clear h hok hk hW0 hy hY  hc hnl hyn
      go_enter Tryz.func70, Tryz.ntmps70
      go_wp2_with (first
        | (rw [← HW0.out])
        | (refine wpList_load_row rfl 29 (.tmp 3) rfl (w.heap.size) rfl 29 cs (0, 0) _ x0.out Tryz.underlying29 rfl HIN.out ?_)
        | (go_at_call 66; (with_reducible refine (HSO.out _ b0.out).mono ?_); rintro e w1 ⟨⟨g, ga, rfl, hL⟩, hb⟩; have D1 := Lib.hid (bel_on b0.out hb); have c20 := HLC.out _ _ _ hL; have L1 := Lib.hid hL; clear hb hL)
        | (go_at_call 93; (with_reducible refine (HCP.out _ D1.out).mono ?_); rintro e w2 ⟨rfl, hb⟩; have D2 := Lib.hid (bel_on D1.out hb); have L2 := Lib.hid (HLB.out _ _ _ _ L1.out hb); clear hb)
        | (go_at_call 74; (with_reducible refine (clo_names _ _).mono ?_); rintro e w3 ⟨rfl, rfl⟩)
        | (go_at_call 75; (with_reducible refine (HM.out _ _ _ L2.out (HSW.out _ D2.out) (HYW.out _ D2.out)).mono ?_); rintro e w4 ⟨⟨A, c', rfl, hI⟩, hb⟩; have D4 := Lib.hid (bel_on D2.out hb); have I4 := Lib.hid (hI.le_ D2.out.size); clear hb hI))
      go_ret2
      exact ⟨HF.out _ _ _ HR.out ⟨_, _, rfl, I4.out⟩, D4.out⟩

set_option maxHeartbeats 4000000 in
set_option maxRecDepth 1000000 in
theorem TraceSteps_own (s : StV) (Y : Option Addr) (c : Nat) (y : List UInt8) (w : World) (h : StOK w s) {n0 : Nat} (hy : y.length = n0) (hY : BR w Y c y) :
    Calls Tryz.prog 26 #[.agg s.cs.toArray, .slice Y n0 c] w fun e w' => IntsOwn w.heap.size (s.nmsR y) e w' ∧ Below w.heap.size w w' := by
  have hk := h.k16
  obtain ⟨W0, hW0⟩ : ∃ W : World, W = w.alloc (.cells s.cs.toArray 29) := ⟨_, rfl⟩
  have b0 : Hid (Below w.heap.size w W0) := by unfold Hid; rw [hW0]; exact alloc_below _ _
  have x0 : Hid (Blk W0 w.heap.size 29 s.cs.toArray) := by unfold Hid; rw [hW0]; exact Blk.new w _ _
  have HW0 := Lib.hid hW0
  have HIN := Lib.hid (StV.info (s := s) hk)
  have HAS : Hid (∀ W, Below w.heap.size w W → Calls Tryz.prog 70 #[.agg s.cs.toArray, .slice Y n0 c, .func (.func 74) #[] #[]] W fun e w' => IntsOwn W.heap.size (s.nmsR y) e w' ∧ Below W.heap.size W w') := fun W hW => asked_names_own s Y c y W (h.below hW) hy (hY.below hW)
  have HF : Hid (∀ r e w', (∃ A c, e = .returned (.tuple #[.slice A (r : List Int × Int).1.length c, .int .i64 r.2]) ∧ OI w.heap.size w' A c r.1) → IntsOwn w.heap.size r e w') := fun r e w' h => h
  generalize s.nmsR y = r at HAS ⊢
  generalize s.cs.toArray = cs at *
  clear h hk hW0 hy hY
  go_enter Tryz.func26, Tryz.ntmps26
  go_wp2_with (first
    | (rw [← HW0.out])
    | (refine wpList_load_row rfl 29 (.tmp 2) rfl (w.heap.size) rfl 29 cs (0, 0) _ x0.out Tryz.underlying29 rfl HIN.out ?_)
    | (go_at_call 70; (with_reducible refine (HAS.out _ b0.out).mono ?_); rintro e w1 ⟨⟨A, c', rfl, hI⟩, hb⟩; have D1 := Lib.hid (bel_on b0.out hb); have I1 := Lib.hid (hI.le_ b0.out.size); clear hb hI))
  go_ret2
  exact ⟨HF.out _ _ _ ⟨A, c', rfl, I1.out⟩, D1.out⟩

theorem StV.nmsR_small (s : StV) (y : List UInt8) : (s.nmsR y).1.length ≤ 16 ∧ ∀ x ∈ (s.nmsR y).1, 0 ≤ x ∧ x ≤ 16 := by
  unfold StV.nmsR
  split
  · simp
  · rename_i hok
    split
    · simp
    · exact StV.nms_small (by simpa using hok) y
theorem TraceSteps_any (s : StV) (Y : Option Addr) (c : Nat) (y : List UInt8) (w : World) (h : StOK w s) {n0 : Nat} (hy : y.length = n0) (hY : BR w Y c y) :
    Calls Tryz.prog 26 #[.agg s.cs.toArray, .slice Y n0 c] w fun e w' => IntsErr (s.nmsR y) e w' ∧ Below w.heap.size w w' :=
  (TraceSteps_own s Y c y w h hy hY).mono fun e w' ⟨⟨A, c', he, ho⟩, h2⟩ => by
    obtain ⟨s1, s2⟩ := s.nmsR_small y
    exact ⟨⟨A, c', he, ho.ir (by omega) (fun x hx => by have := s2 x hx; omega)⟩, h2⟩
end Go.Proofs.YtenpkmgbaajeeaaGreat

/- The columns' order: the reference's. -/
namespace Go.Proofs.YtenpkmgbaajeeaaGreat
open Go.RowKit
set_option linter.unusedVariables false
set_option linter.unusedSimpArgs false

end Go.Proofs.YtenpkmgbaajeeaaGreat

/- Words, weights and names of a code of steps: the reference's. -/
namespace Go.Proofs.YtenpkmgbaajeeaaGreat
open Go.RowKit
set_option linter.unusedVariables false
set_option linter.unusedSimpArgs false

end Go.Proofs.YtenpkmgbaajeeaaGreat

/- The names of a code of steps: the reference's. -/
namespace Go.Proofs.YtenpkmgbaajeeaaGreat
open Go.RowKit
set_option linter.unusedVariables false
set_option linter.unusedSimpArgs false

end Go.Proofs.YtenpkmgbaajeeaaGreat

/- Words, weights and names asked of a code of steps: the reference's; lists of ints compared. -/
namespace Go.Proofs.YtenpkmgbaajeeaaGreat
open Go.RowKit
set_option linter.unusedVariables false
set_option linter.unusedSimpArgs false

end Go.Proofs.YtenpkmgbaajeeaaGreat

/- Guarded operations in regions that draw. -/
namespace Go.Proofs.YtenpkmgbaajeeaaGreat
open Go.RowKit
set_option linter.unusedVariables false

section
variable {P : Program} {md : Region.Mode} {ops : Array Oper} {Q : Exit → Act → World → Prop} {S : World → Prop} {fuel : Nat} {listed : Array Bool} {a : Act} {w : World}
/-- A guarded load of a row that is wanted. -/
theorem hg_load (i : Nat) {oi : Oper} (g o : Nat) (cs : List Value) (ty : TypeId) (x : Operand) {d : TypeDesc} (hi : ops[i]? = some oi) (ho : oi.op = .load ty x) (hg : Region.wanted oi (yielded ops a.tmps) = true)
    (hs : Region.noSelect ops = true) (hf : Region.free md ops listed i = true) (hr : (Region.ready md ops listed).contains i = true) (hQ : ∀ c a w, Q (.panic c) (a.put oi.dst (.agg cs.toArray)) w → Q (.panic c) a w)
    (hx : a.eval x = .pointer (some ⟨g, o, none⟩)) (hS : ∀ w, S w → w.rangeAt g o cs) (hu : P.underlying ty = some d) (hd : d.isRow = true) (hn : (P.info? ty).map (·.size) = some cs.length) (hw : S w)
    (h : wpAnyH P md ops Q S fuel (listed.setIfInBounds i true) (a.put oi.dst (.agg cs.toArray)) w) : wpAnyH P md ops Q S (fuel + 1) listed a w :=
  wpAnyH_take hi hs hf hr hQ (yieldsIf_load_mid hg ty x ho g o hx cs d hS hu hd hn) hw h
/-- A guarded one that is wanted and yields a value. -/
theorem hg_take (i : Nat) {oi : Oper} (v : Value) (hi : ops[i]? = some oi) (hg : Region.wanted oi (yielded ops a.tmps) = true)
    (hs : Region.noSelect ops = true) (hf : Region.free md ops listed i = true) (hr : (Region.ready md ops listed).contains i = true) (hQ : ∀ c a w, Q (.panic c) (a.put oi.dst v) w → Q (.panic c) a w)
    (hy : ∀ w, S w → (execOp a.eval oi).run P w = .ok (.value v) w) (hw : S w)
    (h : wpAnyH P md ops Q S fuel (listed.setIfInBounds i true) (a.put oi.dst v) w) : wpAnyH P md ops Q S (fuel + 1) listed a w :=
  wpAnyH_take hi hs hf hr hQ (.inl ⟨hg, hy⟩) hw h
/-- A guarded one that is not wanted. -/
theorem hg_skip (i : Nat) {oi : Oper} (hi : ops[i]? = some oi) (hg : Region.wanted oi (yielded ops a.tmps) = false)
    (hs : Region.noSelect ops = true) (hf : Region.free md ops listed i = true) (hr : (Region.ready md ops listed).contains i = true) (hQ : ∀ c a w, Q (.panic c) (a.put oi.dst undef) w → Q (.panic c) a w)
    (hw : S w) (h : wpAnyH P md ops Q S fuel (listed.setIfInBounds i true) (a.put oi.dst undef) w) : wpAnyH P md ops Q S (fuel + 1) listed a w :=
  wpAnyH_take hi hs hf hr hQ (.inr ⟨hg, rfl⟩) hw h
/-- A guarded call that is wanted, the only one that may come up. -/
theorem hg_calls (i : Nat) {oi : Oper} (f : FuncId) (args : Array Value) (hi : ops[i]? = some oi) (hg : Region.wanted oi (yielded ops a.tmps) = true) (hr : Region.ready md ops listed = [i]) (hrun : (execOp a.eval oi).run P w = .ok (.enter f args) w)
    (h : Calls P f args w fun e w' => ∃ v, e = .returned v ∧ S w' ∧ wpAnyH P md ops Q S fuel (listed.setIfInBounds i true) (a.put oi.dst v) w') : wpAnyH P md ops Q S (fuel + 1) listed a w := by
  refine wpAnyH_all hr (by simp) fun j hj => ?_
  rw [List.mem_singleton] at hj
  subst hj
  unfold wpOp
  simp only [hi, hg, if_true]
  refine .inl ?_
  unfold Oper.wp
  rw [hrun]
  refine h.mono fun e w' hv => ?_
  obtain ⟨v, rfl, hk⟩ := hv
  exact hk
end
end Go.Proofs.YtenpkmgbaajeeaaGreat
