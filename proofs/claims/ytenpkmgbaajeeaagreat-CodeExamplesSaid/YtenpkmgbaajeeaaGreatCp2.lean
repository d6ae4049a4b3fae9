/-
  Lemmas and contracts, joined.
-/
import Derived.Test.YtenpkmgbaajeeaaGreatCp1
import Derived.Test.YtenpkmgbaajeeaaGreatCs1
import Derived.Test.YtenpkmgbaajeeaaGreatCt2
set_option linter.unusedSimpArgs false
set_option linter.unusedVariables false
set_option linter.unnecessarySimpa false
/- Words, weights and names asked of a code of steps: the program's. -/
namespace Go.Proofs.YtenpkmgbaajeeaaGreat
open Go.RowKit
set_option linter.unusedVariables false
set_option linter.unusedSimpArgs false

/-- What is handed back: a row and an error. -/
def WordErr (r : List UInt8 × Int) (e : Ending) (w' : World) : Prop := ∃ A c, e = .returned (.tuple #[.slice A r.1.length c, .int .i64 r.2]) ∧ BR w' A c r.1
def IntsErr (r : List Int × Int) (e : Ending) (w' : World) : Prop := ∃ A c, e = .returned (.tuple #[.slice A r.1.length c, .int .i64 r.2]) ∧ IR w' A c r.1
/-- The row is the call's own. -/
def WordOwn (B : Nat) (r : List UInt8 × Int) (e : Ending) (w' : World) : Prop := ∃ A c, e = .returned (.tuple #[.slice A r.1.length c, .int .i64 r.2]) ∧ OB B w' A c r.1
theorem wordOwn_nil (B : Nat) (w : World) (x : Int) {r : List UInt8 × Int} (h : r = ([], x)) : WordOwn B r (.returned (.tuple #[.slice none 0 0, .int .i64 x])) w := by
  subst h
  exact ⟨none, 0, rfl, OB.nil' _ _⟩
theorem wordErr_nil (w : World) (x : Int) {r : List UInt8 × Int} (h : r = ([], x)) : WordErr r (.returned (.tuple #[.slice none 0 0, .int .i64 x])) w := by
  subst h
  exact ⟨none, 0, rfl, BR.nil _⟩
theorem intsErr_nil (w : World) (x : Int) {r : List Int × Int} (h : r = ([], x)) : IntsErr r (.returned (.tuple #[.slice none 0 0, .int .i64 x])) w := by
  subst h
  exact ⟨none, 0, rfl, (OI.nil 0 w).ir (by simp) (by simp)⟩
def IntsOwn (B : Nat) (r : List Int × Int) (e : Ending) (w' : World) : Prop := ∃ A c, e = .returned (.tuple #[.slice A r.1.length c, .int .i64 r.2]) ∧ OI B w' A c r.1
theorem intsOwn_nil (B : Nat) (w : World) (x : Int) {r : List Int × Int} (h : r = ([], x)) : IntsOwn B r (.returned (.tuple #[.slice none 0 0, .int .i64 x])) w := by
  subst h
  exact ⟨none, 0, rfl, OI.nil B w⟩
theorem blk_br {w : World} {g : Nat} {l : List UInt8} (h : Blk w g 5 (cellsB l).toArray) (hl : l.length ≤ 1000000) : BR w (some ⟨g, 0, none⟩) l.length l := (h.ob (Nat.le_refl _) rfl rfl hl).br (by omega)
theorem blk_ir {w : World} {g : Nat} {l : List Nat} (h : Blk w g 3 (cellsL l).toArray) (hl : l.length ≤ 1000000) (hb : ∀ x ∈ l, x ≤ 1000000) : IR w (some ⟨g, 0, none⟩) l.length (natI l) :=
  (Blk.oi (l := natI l) (n := l.length) h (Nat.le_refl _) (by simp [natI]) rfl hl).ir (by simp [natI]; omega) (fun x hx => by
    obtain ⟨y, hy, rfl⟩ := List.mem_map.1 hx
    have := hb y hy
    omega)
def StV.wordR (s : StV) (x : Int) : List UInt8 × Int := if s.ok = false then ([], 70) else if x < 0 ∨ s.u ≤ x then ([], 2) else (s.word x.toNat, 0)
def StV.wtsR (s : StV) (y : List UInt8) : List Int × Int := if s.ok = false then ([], 70) else if copyB y s.n = false then ([], 71) else (natI (s.wts y), 0)
def StV.nmsR (s : StV) (y : List UInt8) : List Int × Int := if s.ok = false then ([], 70) else if copyB y s.n = false then ([], 71) else (s.nms y, 0)
theorem StV.word_len (s : StV) (x : Nat) : (s.word x).length = s.n := stepWord_length _ _ _
theorem StV.wts_small {s : StV} (hok : s.ok = true) (y : List UInt8) : ∀ x ∈ s.wts y, x ≤ 64 := fun x hx => by
  obtain ⟨i, hi, rfl⟩ := List.getElem_of_mem hx
  have h := StV.wts_le hok y i (by rw [← s.wts_len y]; exact hi)
  obtain ⟨⟨q1, q2, q3, q4⟩, _⟩ := StV.parts hok
  rw [List.getD_eq_getElem?_getD, List.getElem?_eq_getElem hi] at h
  simp only [Option.getD_some] at h
  omega
theorem StV.nms_small {s : StV} (hok : s.ok = true) (y : List UInt8) : (s.nms y).length ≤ 16 ∧ ∀ x ∈ s.nms y, 0 ≤ x ∧ x ≤ 16 := by
  obtain ⟨⟨q1, q2, q3, q4⟩, _⟩ := StV.parts hok
  refine ⟨Nat.le_trans (namesF_length _ _) (by omega), fun x hx => ?_⟩
  obtain ⟨u, hu, _, rfl⟩ := namesF_mem.1 hx
  omega
theorem cp_nat {y : List UInt8} {n : Nat} (h : copyB y n = true) : y.length = n := by
  unfold copyB at h
  simp only [Bool.and_eq_true, decide_eq_true_eq] at h
  exact h.1

set_option maxHeartbeats 4000000 in
set_option maxRecDepth 1000000 in
theorem StepWord_own (s : StV) (x : Int) (w : World) (h : StOK w s) (hx1 : -9223372036854775808 ≤ x) (hx2 : x ≤ 9223372036854775807) :
    Calls Tryz.prog 19 #[.agg s.cs.toArray, .int .i64 x] w fun e w' => WordOwn w.heap.size (s.wordR x) e w' ∧ Below w.heap.size w w' := by
  have hk := h.k16
  obtain ⟨W0, hW0⟩ : ∃ W : World, W = w.alloc (.cells s.cs.toArray 29) := ⟨_, rfl⟩
  have b0 : Hid (Below w.heap.size w W0) := by unfold Hid; rw [hW0]; exact alloc_below _ _
  have x0 : Hid (Blk W0 w.heap.size 29 s.cs.toArray) := by unfold Hid; rw [hW0]; exact Blk.new w _ _
  have HW0 := Lib.hid hW0
  have HIN := Lib.hid (StV.info (s := s) hk)
  cases hok : s.ok with
  | false =>
    have HSO : Hid (∀ W, Below w.heap.size w W → Calls Tryz.prog 66 #[.agg s.cs.toArray] W fun e w' => e = .returned (.tuple #[.pointer none, .int .i64 70]) ∧ Below W.heap.size W w') := fun W hW => stepsOf_bad s W (h.below hW) hok
    have HR : Hid (s.wordR x = ([], 70)) := by unfold Hid StV.wordR; rw [if_pos hok]
    generalize s.wordR x = r at HR ⊢
    generalize s.cs.toArray = cs at *
    clear h hok hk hW0
    go_enter Tryz.func19, Tryz.ntmps19
    go_wp2_with (first
      | (rw [← HW0.out])
      | (refine wpList_load_row rfl 29 (.tmp 2) rfl (w.heap.size) rfl 29 cs (0, 0) _ x0.out Tryz.underlying29 rfl HIN.out ?_)
      | (go_at_call 66; (with_reducible refine (HSO.out _ b0.out).mono ?_); rintro e w1 ⟨rfl, hb⟩; have D1 := Lib.hid (bel_on b0.out hb); clear hb))
    go_ret2
    exact ⟨wordOwn_nil _ _ _ HR.out, D1.out⟩
  | true =>
    have HSO : Hid (∀ W, Below w.heap.size w W → Calls Tryz.prog 66 #[.agg s.cs.toArray] W fun e w' => (∃ g ga, e = .returned (.tuple #[.pointer (some ⟨g, 0, none⟩), .int .i64 0]) ∧ Laid w' s g ga) ∧ Below W.heap.size W w') := fun W hW => stepsOf_good s W (h.below hW) hok
    have HC0 : Hid (∀ W, Below W0.heap.size W0 W → W.cell? ⟨w.heap.size, 0, none⟩ = some (.int .i64 s.u)) := fun W hW => (StV.cells hk (x0.out.below' hW)).1
    by_cases hin : 0 ≤ x ∧ x < s.u
    · obtain ⟨hx0, hxu⟩ := hin
      obtain ⟨n, rfl⟩ : ∃ n : Nat, x = (n : Int) := ⟨x.toNat, by omega⟩
      have HWD : Hid (∀ g ga W, Laid W s g ga → Calls Tryz.prog 67 #[.pointer (some ⟨g, 0, none⟩), .int .i64 (n : Int)] W fun e w' => e = .returned (.slice (some ⟨W.heap.size, 0, none⟩) s.n s.n) ∧ Blk w' W.heap.size 5 (cellsB (s.word n)).toArray ∧ Below W.heap.size W w') := fun g ga W hL => word_any s g ga n W hk hok hL hxu
      have HR : Hid (s.wordR (n : Int) = (s.word n, 0)) := by
        unfold Hid StV.wordR
        rw [if_neg (by rw [hok]; simp), if_neg (by omega), Int.toNat_natCast]
      have HWL : Hid ((s.word n).length = s.n) := s.word_len n
      have HNL : Hid (s.n ≤ 1000000) := by have := (StV.n_le hok).2.1; unfold Hid; omega
      have hnx : ¬ ((n : Int) < 0) := by omega
      have hnu : ¬ (s.u ≤ (n : Int)) := by omega
      have HF : Hid (∀ r e w', r = (s.word n, (0 : Int)) → (∃ g, w.heap.size ≤ g ∧ e = .returned (.tuple #[.slice (some ⟨g, 0, none⟩) s.n s.n, .int .i64 0]) ∧ Blk w' g 5 (cellsB (s.word n)).toArray) → WordOwn w.heap.size r e w') := fun r e w' hr ⟨g, hg, he, hB⟩ => by
        subst hr
        have hb := Blk.ob hB hg rfl rfl (by rw [HWL.out]; exact HNL.out)
        exact ⟨some ⟨g, 0, none⟩, (s.word n).length, by rw [he, HWL.out], hb⟩
      generalize s.wordR (n : Int) = r at HR ⊢
      generalize s.n = nn at HWD HF
      generalize s.u = u at *
      generalize s.cs.toArray = cs at *
      clear h hok hk hW0  HWL HNL
      go_enter Tryz.func19, Tryz.ntmps19
      go_wp2_with (first
        | (rw [← HW0.out])
        | (refine wpList_load_row rfl 29 (.tmp 2) rfl (w.heap.size) rfl 29 cs (0, 0) _ x0.out Tryz.underlying29 rfl HIN.out ?_)
        | (go_at_call 66; (with_reducible refine (HSO.out _ b0.out).mono ?_); rintro e w1 ⟨⟨g, ga, rfl, hL⟩, hb⟩; have D1 := Lib.hid (bel_on b0.out hb); have L1 := Lib.hid hL; have c0 := HC0.out _ hb; clear hb hL)
        | (go_at_call 67; (with_reducible refine (HWD.out _ _ _ L1.out).mono ?_); rintro e w2 ⟨rfl, hB, hb⟩; have D2 := Lib.hid (bel_on D1.out hb); have B2 := Lib.hid hB; clear hb hB))
      all_goals first | omega | (go_ret2; exact ⟨HF.out _ _ _ HR.out ⟨_, D1.out.size, rfl, B2.out⟩, D2.out⟩)
    · have HR : Hid (s.wordR x = ([], 2)) := by
        unfold Hid StV.wordR
        rw [if_neg (by rw [hok]; simp), if_pos (by omega)]
      generalize s.wordR x = r at HR ⊢
      generalize s.u = u at *
      generalize s.cs.toArray = cs at *
      clear h hok hk hW0 
      go_enter Tryz.func19, Tryz.ntmps19
      go_wp2_with (first
        | (rw [← HW0.out])
        | (refine wpList_load_row rfl 29 (.tmp 2) rfl (w.heap.size) rfl 29 cs (0, 0) _ x0.out Tryz.underlying29 rfl HIN.out ?_)
        | (go_at_call 66; (with_reducible refine (HSO.out _ b0.out).mono ?_); rintro e w1 ⟨⟨g, ga, rfl, hL⟩, hb⟩; have D1 := Lib.hid (bel_on b0.out hb); have c0 := HC0.out _ hb; clear hb hL))
      all_goals first | omega | (go_ret2; exact ⟨wordOwn_nil _ _ _ HR.out, D1.out⟩)
theorem wordErr_own {B : Nat} {r : List UInt8 × Int} {e : Ending} {w' : World} (hl : r.1.length ≤ 1000000) (h : WordOwn B r e w') : WordErr r e w' := by
  obtain ⟨A, c, he, hb⟩ := h
  exact ⟨A, c, he, hb.br (by omega)⟩
theorem StV.wordR_len (s : StV) (x : Int) : (s.wordR x).1.length ≤ 1000000 := by
  unfold StV.wordR
  split
  · simp
  · rename_i hok
    split
    · simp
    · have := (StV.n_le (by simpa using hok)).2.1
      rw [StV.word_len]; omega
theorem StepWord_any (s : StV) (x : Int) (w : World) (h : StOK w s) (hx1 : -9223372036854775808 ≤ x) (hx2 : x ≤ 9223372036854775807) :
    Calls Tryz.prog 19 #[.agg s.cs.toArray, .int .i64 x] w fun e w' => WordErr (s.wordR x) e w' ∧ Below w.heap.size w w' :=
  (StepWord_own s x w h hx1 hx2).mono fun e w' ⟨h1, h2⟩ => ⟨wordErr_own (s.wordR_len x) h1, h2⟩

theorem clo_weights (p : Value) (w : World) : Calls Tryz.prog 71 #[p] w fun e w' => e = .returned (.func (.func 72) #[p] #[]) ∧ w' = w := by
  go_enter Tryz.func71, Tryz.ntmps71
  go_wp2_with fail
  go_ret
  exact ⟨rfl, rfl⟩
set_option maxHeartbeats 4000000 in
set_option maxRecDepth 1000000 in
theorem asked_weights (s : StV) (Y : Option Addr) (c : Nat) (y : List UInt8) (w : World) (h : StOK w s) {n0 : Nat} (hy : y.length = n0) (hY : BR w Y c y) :
    Calls Tryz.prog 70 #[.agg s.cs.toArray, .slice Y n0 c, .func (.func 71) #[] #[]] w fun e w' => IntsErr (s.wtsR y) e w' ∧ Below w.heap.size w w' := by
  have hk := h.k16
  obtain ⟨W0, hW0⟩ : ∃ W : World, W = w.alloc (.cells s.cs.toArray 29) := ⟨_, rfl⟩
  have b0 : Hid (Below w.heap.size w W0) := by unfold Hid; rw [hW0]; exact alloc_below _ _
  have x0 : Hid (Blk W0 w.heap.size 29 s.cs.toArray) := by unfold Hid; rw [hW0]; exact Blk.new w _ _
  have HW0 := Lib.hid hW0
  have HIN := Lib.hid (StV.info (s := s) hk)
  cases hok : s.ok with
  | false =>
    have HSO : Hid (∀ W, Below w.heap.size w W → Calls Tryz.prog 66 #[.agg s.cs.toArray] W fun e w' => e = .returned (.tuple #[.pointer none, .int .i64 70]) ∧ Below W.heap.size W w') := fun W hW => stepsOf_bad s W (h.below hW) hok
    have HR : Hid (s.wtsR y = ([], 70)) := by unfold Hid StV.wtsR; rw [if_pos hok]
    generalize s.wtsR y = r at HR ⊢
    generalize s.cs.toArray = cs at *
    clear h hok hk hW0 hy hY
    go_enter Tryz.func70, Tryz.ntmps70
    go_wp2_with (first
      | (rw [← HW0.out])
      | (refine wpList_load_row rfl 29 (.tmp 3) rfl (w.heap.size) rfl 29 cs (0, 0) _ x0.out Tryz.underlying29 rfl HIN.out ?_)
      | (go_at_call 66; (with_reducible refine (HSO.out _ b0.out).mono ?_); rintro e w1 ⟨rfl, hb⟩; have D1 := Lib.hid (bel_on b0.out hb); clear hb))
    go_ret2
    exact ⟨intsErr_nil _ _ HR.out, D1.out⟩
  | true =>
    have HSO : Hid (∀ W, Below w.heap.size w W → Calls Tryz.prog 66 #[.agg s.cs.toArray] W fun e w' => (∃ g ga, e = .returned (.tuple #[.pointer (some ⟨g, 0, none⟩), .int .i64 0]) ∧ Laid w' s g ga) ∧ Below W.heap.size W w') := fun W hW => stepsOf_good s W (h.below hW) hok
    have HLC : Hid (∀ W g ga, Laid W s g ga → W.cell? ⟨g, 20, none⟩ = some (.slice (some ⟨ga, 0, none⟩) s.n s.n)) := fun W g ga hL => (hL.cells hk).2.2
    have HLB : Hid (∀ W W' g ga, Laid W s g ga → Below W.heap.size W W' → Laid W' s g ga) := fun W W' g ga hL hb => hL.below hb
    have hnl := (StV.n_le hok).2.1
    have HCP : Hid (∀ W, Below w.heap.size w W → Calls Tryz.prog 93 #[.slice Y n0 c, .int .i64 (s.n : Int)] W fun e w' => e = .returned (.bool (copyB y s.n)) ∧ Below W.heap.size W w') := fun W hW => isCopy_any Y c y s.n W hy (hY.below hW) (by omega)
    cases hc : copyB y s.n with
    | false =>
      have HR : Hid (s.wtsR y = ([], 71)) := by unfold Hid StV.wtsR; rw [if_neg (by rw [hok]; simp), if_pos hc]
      rw [hc] at HCP
      generalize s.wtsR y = r at HR ⊢
      generalize s.n = n at *
      generalize s.cs.toArray = cs at *
      clear h hok hk hW0 hy hY  hc hnl
      go_enter Tryz.func70, Tryz.ntmps70
      go_wp2_with (first
        | (rw [← HW0.out])
        | (refine wpList_load_row rfl 29 (.tmp 3) rfl (w.heap.size) rfl 29 cs (0, 0) _ x0.out Tryz.underlying29 rfl HIN.out ?_)
        | (go_at_call 66; (with_reducible refine (HSO.out _ b0.out).mono ?_); rintro e w1 ⟨⟨g, ga, rfl, hL⟩, hb⟩; have D1 := Lib.hid (bel_on b0.out hb); have c20 := HLC.out _ _ _ hL; clear hb hL)
        | (go_at_call 93; (with_reducible refine (HCP.out _ D1.out).mono ?_); rintro e w2 ⟨rfl, hb⟩; have D2 := Lib.hid (bel_on D1.out hb); clear hb))
      go_ret2
      exact ⟨intsErr_nil _ _ HR.out, D2.out⟩
    | true =>
      have HR : Hid (s.wtsR y = (natI (s.wts y), 0)) := by unfold Hid StV.wtsR; rw [if_neg (by rw [hok]; simp), if_neg (by rw [hc]; simp)]
      have HYW : Hid (∀ W, Below w.heap.size w W → BR W Y c y) := fun W hW => hY.below hW
      have HSW : Hid (∀ W, Below w.heap.size w W → StOK W s) := fun W hW => h.below hW
      have HM : Hid (∀ g ga W, Laid W s g ga → StOK W s → BR W Y c y → Calls Tryz.prog 72 #[.pointer (some ⟨g, 0, none⟩), .slice Y s.n c] W fun e w' => (∃ A c', e = .returned (.slice A (natI (s.wts y)).length c') ∧ IR w' A c' (natI (s.wts y))) ∧ Below W.heap.size W w') := fun g ga W hL hS hB => by
        refine (weights_any s g ga Y c y W hk hok hL (cp_nat hc) rfl hB).mono ?_
        rintro e w' ⟨rfl, hb, hd⟩
        have hl : (natI (s.wts y)).length = s.u.toNat - 1 := by simp [natI, s.wts_len]
        have := blk_ir hb (by rw [s.wts_len]; have := (StV.parts hok).1; omega) (fun x hx => by have := StV.wts_small hok y x hx; omega)
        rw [s.wts_len] at this
        exact ⟨⟨_, _, by rw [hl], this⟩, hd⟩
      rw [hc] at HCP
      have hyn := cp_nat hc
      have HF : Hid (∀ r e w', r = (natI (s.wts y), (0 : Int)) → (∃ A c', e = .returned (.tuple #[.slice A (natI (s.wts y)).length c', .int .i64 0]) ∧ IR w' A c' (natI (s.wts y))) → IntsErr r e w') := fun r e w' hr ⟨A, c', he, hB⟩ => by
        subst hr
        exact ⟨A, c', he, hB⟩
      obtain rfl : n0 = s.n := by omega
      generalize s.wtsR y = r at HR ⊢
      generalize s.n = n at *
      generalize s.cs.toArray = cs at *
      generalize natI (s.wts y) = vl at HR HM HF
      clear h hok hk hW0 hy hY  hc hnl hyn
      go_enter Tryz.func70, Tryz.ntmps70
      go_wp2_with (first
        | (rw [← HW0.out])
        | (refine wpList_load_row rfl 29 (.tmp 3) rfl (w.heap.size) rfl 29 cs (0, 0) _ x0.out Tryz.underlying29 rfl HIN.out ?_)
        | (go_at_call 66; (with_reducible refine (HSO.out _ b0.out).mono ?_); rintro e w1 ⟨⟨g, ga, rfl, hL⟩, hb⟩; have D1 := Lib.hid (bel_on b0.out hb); have c20 := HLC.out _ _ _ hL; have L1 := Lib.hid hL; clear hb hL)
        | (go_at_call 93; (with_reducible refine (HCP.out _ D1.out).mono ?_); rintro e w2 ⟨rfl, hb⟩; have D2 := Lib.hid (bel_on D1.out hb); have L2 := Lib.hid (HLB.out _ _ _ _ L1.out hb); clear hb)
        | (go_at_call 71; (with_reducible refine (clo_weights _ _).mono ?_); rintro e w3 ⟨rfl, rfl⟩)
        | (go_at_call 72; (with_reducible refine (HM.out _ _ _ L2.out (HSW.out _ D2.out) (HYW.out _ D2.out)).mono ?_); rintro e w4 ⟨⟨A, c', rfl, hI⟩, hb⟩; have D4 := Lib.hid (bel_on D2.out hb); have I4 := Lib.hid hI; clear hb hI))
      go_ret2
      exact ⟨HF.out _ _ _ HR.out ⟨_, _, rfl, I4.out⟩, D4.out⟩

set_option maxHeartbeats 4000000 in
set_option maxRecDepth 1000000 in
theorem Weights_any (s : StV) (Y : Option Addr) (c : Nat) (y : List UInt8) (w : World) (h : StOK w s) {n0 : Nat} (hy : y.length = n0) (hY : BR w Y c y) :
    Calls Tryz.prog 23 #[.agg s.cs.toArray, .slice Y n0 c] w fun e w' => IntsErr (s.wtsR y) e w' ∧ Below w.heap.size w w' := by
  have hk := h.k16
  obtain ⟨W0, hW0⟩ : ∃ W : World, W = w.alloc (.cells s.cs.toArray 29) := ⟨_, rfl⟩
  have b0 : Hid (Below w.heap.size w W0) := by unfold Hid; rw [hW0]; exact alloc_below _ _
  have x0 : Hid (Blk W0 w.heap.size 29 s.cs.toArray) := by unfold Hid; rw [hW0]; exact Blk.new w _ _
  have HW0 := Lib.hid hW0
  have HIN := Lib.hid (StV.info (s := s) hk)
  have HAS : Hid (∀ W, Below w.heap.size w W → Calls Tryz.prog 70 #[.agg s.cs.toArray, .slice Y n0 c, .func (.func 71) #[] #[]] W fun e w' => IntsErr (s.wtsR y) e w' ∧ Below W.heap.size W w') := fun W hW => asked_weights s Y c y W (h.below hW) hy (hY.below hW)
  have HF : Hid (∀ r e w', (∃ A c, e = .returned (.tuple #[.slice A (r : List Int × Int).1.length c, .int .i64 r.2]) ∧ IR w' A c r.1) → IntsErr r e w') := fun r e w' h => h
  generalize s.wtsR y = r at HAS ⊢
  generalize s.cs.toArray = cs at *
  clear h hk hW0 hy hY
  go_enter Tryz.func23, Tryz.ntmps23
  go_wp2_with (first
    | (rw [← HW0.out])
    | (refine wpList_load_row rfl 29 (.tmp 2) rfl (w.heap.size) rfl 29 cs (0, 0) _ x0.out Tryz.underlying29 rfl HIN.out ?_)
    | (go_at_call 70; (with_reducible refine (HAS.out _ b0.out).mono ?_); rintro e w1 ⟨⟨A, c', rfl, hI⟩, hb⟩; have D1 := Lib.hid (bel_on b0.out hb); have I1 := Lib.hid hI; clear hb hI))
  go_ret2
  exact ⟨HF.out _ _ _ ⟨A, c', rfl, I1.out⟩, D1.out⟩

theorem clo_names (p : Value) (w : World) : Calls Tryz.prog 74 #[p] w fun e w' => e = .returned (.func (.func 75) #[p] #[]) ∧ w' = w := by
  go_enter Tryz.func74, Tryz.ntmps74
  go_wp2_with fail
  go_ret
  exact ⟨rfl, rfl⟩
set_option maxHeartbeats 4000000 in
set_option maxRecDepth 1000000 in
theorem asked_names_own (s : StV) (Y : Option Addr) (c : Nat) (y : List UInt8) (w : World) (h : StOK w s) {n0 : Nat} (hy : y.length = n0) (hY : BR w Y c y) :
    Calls Tryz.prog 70 #[.agg s.cs.toArray, .slice Y n0 c, .func (.func 74) #[] #[]] w fun e w' => IntsOwn w.heap.size (s.nmsR y) e w' ∧ Below w.heap.size w w' := by
  have hk := h.k16
  obtain ⟨W0, hW0⟩ : ∃ W : World, W = w.alloc (.cells s.cs.toArray 29) := ⟨_, rfl⟩
  have b0 : Hid (Below w.heap.size w W0) := by unfold Hid; rw [hW0]; exact alloc_below _ _
  have x0 : Hid (Blk W0 w.heap.size 29 s.cs.toArray) := by unfold Hid; rw [hW0]; exact Blk.new w _ _
  have HW0 := Lib.hid hW0
  have HIN := Lib.hid (StV.info (s := s) hk)
  cases hok : s.ok with
  | false =>
    have HSO : Hid (∀ W, Below w.heap.size w W → Calls Tryz.prog 66 #[.agg s.cs.toArray] W fun e w' => e = .returned (.tuple #[.pointer none, .int .i64 70]) ∧ Below W.heap.size W w') := fun W hW => stepsOf_bad s W (h.below hW) hok
    have HR : Hid (s.nmsR y = ([], 70)) := by unfold Hid StV.nmsR; rw [if_pos hok]
    generalize s.nmsR y = r at HR ⊢
    generalize s.cs.toArray = cs at *
    clear h hok hk hW0 hy hY
    go_enter Tryz.func70, Tryz.ntmps70
    go_wp2_with (first
      | (rw [← HW0.out])
      | (refine wpList_load_row rfl 29 (.tmp 3) rfl (w.heap.size) rfl 29 cs (0, 0) _ x0.out Tryz.underlying29 rfl HIN.out ?_)
      | (go_at_call 66; (with_reducible refine (HSO.out _ b0.out).mono ?_); rintro e w1 ⟨rfl, hb⟩; have D1 := Lib.hid (bel_on b0.out hb); clear hb))
    go_ret2
    exact ⟨intsOwn_nil _ _ _ HR.out, D1.out⟩
  | true =>
    have HSO : Hid (∀ W, Below w.heap.size w W → Calls Tryz.prog 66 #[.agg s.cs.toArray] W fun e w' => (∃ g ga, e = .returned (.tuple #[.pointer (some ⟨g, 0, none⟩), .int .i64 0]) ∧ Laid w' s g ga) ∧ Below W.heap.size W w') := fun W hW => stepsOf_good s W (h.below hW) hok
    have HLC : Hid (∀ W g ga, Laid W s g ga → W.cell? ⟨g, 20, none⟩ = some (.slice (some ⟨ga, 0, none⟩) s.n s.n)) := fun W g ga hL => (hL.cells hk).2.2
    have HLB : Hid (∀ W W' g ga, Laid W s g ga → Below W.heap.size W W' → Laid W' s g ga) := fun W W' g ga hL hb => hL.below hb
    have hnl := (StV.n_le hok).2.1
    have HCP : Hid (∀ W, Below w.heap.size w W → Calls Tryz.prog 93 #[.slice Y n0 c, .int .i64 (s.n : Int)] W fun e w' => e = .returned (.bool (copyB y s.n)) ∧ Below W.heap.size W w') := fun W hW => isCopy_any Y c y s.n W hy (hY.below hW) (by omega)
    cases hc : copyB y s.n with
    | false =>
      have HR : Hid (s.nmsR y = ([], 71)) := by unfold Hid StV.nmsR; rw [if_neg (by rw [hok]; simp), if_pos hc]
      rw [hc] at HCP
      generalize s.nmsR y = r at HR ⊢
      generalize s.n = n at *
      generalize s.cs.toArray = cs at *
      clear h hok hk hW0 hy hY  hc hnl
      go_enter Tryz.func70, Tryz.ntmps70
      go_wp2_with (first
        | (rw [← HW0.out])
        | (refine wpList_load_row rfl 29 (.tmp 3) rfl (w.heap.size) rfl 29 cs (0, 0) _ x0.out Tryz.underlying29 rfl HIN.out ?_)
        | (go_at_call 66; (with_reducible refine (HSO.out _ b0.out).mono ?_); rintro e w1 ⟨⟨g, ga, rfl, hL⟩, hb⟩; have D1 := Lib.hid (bel_on b0.out hb); have c20 := HLC.out _ _ _ hL; clear hb hL)
        | (go_at_call 93; (with_reducible refine (HCP.out _ D1.out).mono ?_); rintro e w2 ⟨rfl, hb⟩; have D2 := Lib.hid (bel_on D1.out hb); clear hb))
      go_ret2
      exact ⟨intsOwn_nil _ _ _ HR.out, D2.out⟩
    | true =>
      have HR : Hid (s.nmsR y = (s.nms y, 0)) := by unfold Hid StV.nmsR; rw [if_neg (by rw [hok]; simp), if_neg (by rw [hc]; simp)]
      have HYW : Hid (∀ W, Below w.heap.size w W → BR W Y c y) := fun W hW => hY.below hW
      have HSW : Hid (∀ W, Below w.heap.size w W → StOK W s) := fun W hW => h.below hW
      have HM : Hid (∀ g ga W, Laid W s g ga → StOK W s → BR W Y c y → Calls Tryz.prog 75 #[.pointer (some ⟨g, 0, none⟩), .slice Y s.n c] W fun e w' => (∃ A c', e = .returned (.slice A (s.nms y).length c') ∧ OI W.heap.size w' A c' (s.nms y)) ∧ Below W.heap.size W w') := fun g ga W hL hS hB => names_any s g ga Y c y W hS hok hL (cp_nat hc) rfl hB
      rw [hc] at HCP
      have hyn := cp_nat hc
      have HF : Hid (∀ r e w', r = (s.nms y, (0 : Int)) → (∃ A c', e = .returned (.tuple #[.slice A (s.nms y).length c', .int .i64 0]) ∧ OI w.heap.size w' A c' (s.nms y)) → IntsOwn w.heap.size r e w') := fun r e w' hr ⟨A, c', he, hB⟩ => by
        subst hr
        exact ⟨A, c', he, hB⟩
      obtain rfl : n0 = s.n := by omega
      generalize s.nmsR y = r at HR ⊢
      generalize s.n = n at *
      generalize s.cs.toArray = cs at *
      generalize s.nms y = vl at HR HM HF
      clear h hok hk hW0 hy hY  hc hnl hyn
      go_enter Tryz.func70, Tryz.ntmps70
      go_wp2_with (first
        | (rw [← HW0.out])
        | (refine wpList_load_row rfl 29 (.tmp 3) rfl (w.heap.size) rfl 29 cs (0, 0) _ x0.out Tryz.underlying29 rfl HIN.out ?_)
        | (go_at_call 66; (with_reducible refine (HSO.out _ b0.out).mono ?_); rintro e w1 ⟨⟨g, ga, rfl, hL⟩, hb⟩; have D1 := Lib.hid (bel_on b0.out hb); have c20 := HLC.out _ _ _ hL; have L1 := Lib.hid hL; clear hb hL)
        | (go_at_call 93; (with_reducible refine (HCP.out _ D1.out).mono ?_); rintro e w2 ⟨rfl, hb⟩; have D2 := Lib.hid (bel_on D1.out hb); have L2 := Lib.hid (HLB.out _ _ _ _ L1.out hb); clear hb)
        | (go_at_call 74; (with_reducible refine (clo_names _ _).mono ?_); rintro e w3 ⟨rfl, rfl⟩)
        | (go_at_call 75; (with_reducible refine (HM.out _ _ _ L2.out (HSW.out _ D2.out) (HYW.out _ D2.out)).mono ?_); rintro e w4 ⟨⟨A, c', rfl, hI⟩, hb⟩; have D4 := Lib.hid (bel_on D2.out hb); have I4 := Lib.hid (hI.le_ D2.out.size); clear hb hI))
      go_ret2
      exact ⟨HF.out _ _ _ HR.out ⟨_, _, rfl, I4.out⟩, D4.out⟩

set_option maxHeartbeats 4000000 in
set_option maxRecDepth 1000000 in
theorem TraceSteps_own (s : StV) (Y : Option Addr) (c : Nat) (y : List UInt8) (w : World) (h : StOK w s) {n0 : Nat} (hy : y.length = n0) (hY : BR w Y c y) :
    Calls Tryz.prog 26 #[.agg s.cs.toArray, .slice Y n0 c] w fun e w' => IntsOwn w.heap.size (s.nmsR y) e w' ∧ Below w.heap.size w w' := by
  have hk := h.k16
  obtain ⟨W0, hW0⟩ : ∃ W : World, W = w.alloc (.cells s.cs.toArray 29) := ⟨_, rfl⟩
  have b0 : Hid (Below w.heap.size w W0) := by unfold Hid; rw [hW0]; exact alloc_below _ _
  have x0 : Hid (Blk W0 w.heap.size 29 s.cs.toArray) := by unfold Hid; rw [hW0]; exact Blk.new w _ _
  have HW0 := Lib.hid hW0
  have HIN := Lib.hid (StV.info (s := s) hk)
  have HAS : Hid (∀ W, Below w.heap.size w W → Calls Tryz.prog 70 #[.agg s.cs.toArray, .slice Y n0 c, .func (.func 74) #[] #[]] W fun e w' => IntsOwn W.heap.size (s.nmsR y) e w' ∧ Below W.heap.size W w') := fun W hW => asked_names_own s Y c y W (h.below hW) hy (hY.below hW)
  have HF : Hid (∀ r e w', (∃ A c, e = .returned (.tuple #[.slice A (r : List Int × Int).1.length c, .int .i64 r.2]) ∧ OI w.heap.size w' A c r.1) → IntsOwn w.heap.size r e w') := fun r e w' h => h
  generalize s.nmsR y = r at HAS ⊢
  generalize s.cs.toArray = cs at *
  clear h hk hW0 hy hY
  go_enter Tryz.func26, Tryz.ntmps26
  go_wp2_with (first
    | (rw [← HW0.out])
    | (refine wpList_load_row rfl 29 (.tmp 2) rfl (w.heap.size) rfl 29 cs (0, 0) _ x0.out Tryz.underlying29 rfl HIN.out ?_)
    | (go_at_call 70; (with_reducible refine (HAS.out _ b0.out).mono ?_); rintro e w1 ⟨⟨A, c', rfl, hI⟩, hb⟩; have D1 := Lib.hid (bel_on b0.out hb); have I1 := Lib.hid (hI.le_ b0.out.size); clear hb hI))
  go_ret2
  exact ⟨HF.out _ _ _ ⟨A, c', rfl, I1.out⟩, D1.out⟩

theorem StV.nmsR_small (s : StV) (y : List UInt8) : (s.nmsR y).1.length ≤ 16 ∧ ∀ x ∈ (s.nmsR y).1, 0 ≤ x ∧ x ≤ 16 := by
  unfold StV.nmsR
  split
  · simp
  · rename_i hok
    split
    · simp
    · exact StV.nms_small (by simpa using hok) y
theorem TraceSteps_any (s : StV) (Y : Option Addr) (c : Nat) (y : List UInt8) (w : World) (h : StOK w s) {n0 : Nat} (hy : y.length = n0) (hY : BR w Y c y) :
    Calls Tryz.prog 26 #[.agg s.cs.toArray, .slice Y n0 c] w fun e w' => IntsErr (s.nmsR y) e w' ∧ Below w.heap.size w w' :=
  (TraceSteps_own s Y c y w h hy hY).mono fun e w' ⟨⟨A, c', he, ho⟩, h2⟩ => by
    obtain ⟨s1, s2⟩ := s.nmsR_small y
    exact ⟨⟨A, c', he, ho.ir (by omega) (fun x hx => by have := s2 x hx; omega)⟩, h2⟩
end Go.Proofs.YtenpkmgbaajeeaaGreat

/- The columns' order: the reference's. -/
namespace Go.Proofs.YtenpkmgbaajeeaaGreat
open Go.RowKit
set_option linter.unusedVariables false
set_option linter.unusedSimpArgs false

set_option maxHeartbeats 8000000 in
set_option maxRecDepth 1000000 in
theorem Arranged_any (s : StV) (w : World) (hks : s.k.length = 16) (hok : s.ok = true) :
    Calls Tryz.prog 122 #[.agg (cellsB s.k).toArray, .int .i64 (s.n : Int)] w fun e w' => (∃ ga, e = .returned (.slice (some ⟨ga, 0, none⟩) s.n s.n) ∧ Blk w' ga 3 (cellsL s.at_).toArray) ∧ Below w.heap.size w w' := by
  obtain ⟨hn1, hn2, -⟩ := StV.n_le hok
  have mixed : Tryz.prog.follows Departure.mixedOrders = true := by kernel_rfl
  have HDE : Hid (∀ W, Calls Tryz.prog 119 #[.agg (cellsB s.k).toArray, .int .u8 70, .int .u64 0] W fun e w' => e = .returned (.agg (cellsB (derS s.k 70 0)).toArray) ∧ Below W.heap.size W w') := fun W => refDerive_any s.k 70 0 W hks
  have HNU : Hid (∀ i : Nat, i < s.n → ∀ W, Calls Tryz.prog 135 #[.agg (cellsB (derS s.k 70 0)).toArray, .int .u64 (i : Int), .int .u64 ((i : Int) + 1)] W fun e w' => e = .returned (.int .u64 (s.num i : Int)) ∧ Below W.heap.size W w') := fun i hi W => by
    have := refNumber_any (derS s.k 70 0) (UInt64.ofNat i) (UInt64.ofNat (i + 1)) W rfl
    have x1 : (UInt64.ofNat i).toNat = i := by rw [UInt64.toNat_ofNat']; omega
    have x2 : (UInt64.ofNat (i + 1)).toNat = i + 1 := by rw [UInt64.toNat_ofNat']; omega
    rw [x1, x2] at this
    exact this
  have HNL : Hid (∀ i : Nat, i < s.n → s.num i ≤ i) := fun i hi => s.num_le (by omega)
  have HAT : Hid (s.at_ = arrD s.num (s.n - 1) (List.range s.n)) := rfl
  have HDK : Hid ((derS s.k 70 0).length = 16) := rfl
  have HKK : Hid (s.k.length = 16) := hks
  obtain ⟨W0, hW0⟩ : ∃ W : World, W = w.alloc (.cells (cellsB s.k).toArray 23) := ⟨_, rfl⟩
  have b0 : Hid (Below w.heap.size w W0) := by unfold Hid; rw [hW0]; exact alloc_below _ _
  have x0 : Hid (Blk W0 w.heap.size 23 (cellsB s.k).toArray) := by unfold Hid; rw [hW0]; exact Blk.new w _ _
  have HW0 := Lib.hid hW0
  generalize derS s.k 70 0 = dk at HDE HNU HDK
  generalize s.k = sk at *
  generalize s.at_ = atl at HAT ⊢
  generalize s.num = num at HNU HNL HAT
  generalize s.n = i at *
  clear hW0 hok hks
  obtain ⟨m, hm⟩ : ∃ m, i = m + 1 := ⟨i - 1, by omega⟩
  have em : IntKind.i64.wrap ((i : Int) - 1) = (m : Int) := by rw [IntKind.wrap_i64]; omega
  have em' : (i : Int) - 1 = (m : Int) := by omega
  have HM : Hid (i - 1 = m) := by unfold Hid; omega
  have HNM : Hid (i = m + 1) := hm
  have hni : (i : Int) ≤ 960 := by omega
  have hmk : ∀ W : World, (Instr.makeSlice 38 (.int .i64 (i : Int)) (.int .i64 (i : Int))).run Tryz.prog W = .ok (.slice (some ⟨W.heap.size, 0, none⟩) i i) (W.alloc (.cells (cellsL (fillL i 0)).toArray 3)) := fun W => by
    have := run_make_row' (P := Tryz.prog) 38 3 (.int .i64 0) 8 Tryz.underlying38 (by kernel_rfl) rfl .i64 .i64 i (by omega) (by omega) W
    rwa [made_L] at this
  clear hm
  go_enter Tryz.func122, Tryz.ntmps122
  go_wp2_with (first
    | (rw [← HW0.out])
    | (refine wpList_load_row rfl 23 (.tmp 2) rfl (w.heap.size) rfl 23 (cellsB sk).toArray (0, 0) _ x0.out under_key rfl (cellsB_size _ HKK.out) ?_)
    | (go_at_call 119; (with_reducible refine (HDE.out _).mono ?_); rintro e w6 ⟨rfl, hb⟩; have D6 := Lib.hid hb; clear hb)
    | ((first | rw [zero16] | skip); refine wpList_store_row rfl 23 (.tmp 5) (.tmp 11) rfl w6.heap.size (cellsB dk).toArray rfl rfl 23 (cellsB zeroK).toArray (Blk.new w6 _ _) (cellsB_size _ HDK.out) (cellsB_sizes _ _ zeroK_length HDK.out) (cellsB_all _) ?_; obtain ⟨w7, hV⟩ : ∃ W, W = (w6.alloc (.cells (cellsB zeroK).toArray 23)).setRow w6.heap.size (cellsB dk).toArray := ⟨_, rfl⟩; rw [← hV]; obtain ⟨hb, nb⟩ := keybox_ _ _ _ _ hV; have D7 := Lib.hid (bel_on D6.out hb); have K7 := Lib.hid nb; clear hV hb nb))
  obtain ⟨w8, hw8⟩ : ∃ W, W = w7.alloc (.cells (cellsL (fillL i 0)).toArray 3) := ⟨_, rfl⟩
  rw [← hw8]
  obtain ⟨ga, hga⟩ : ∃ ga, w7.heap.size = ga := ⟨_, rfl⟩
  obtain ⟨gk, hgk⟩ : ∃ gk, w6.heap.size = gk := ⟨_, rfl⟩
  have A8 : Hid (Blk w8 ga 3 (cellsL (fillL i 0)).toArray) := by unfold Hid; rw [hw8, ← hga]; exact Blk.new _ _ _
  have K8 : Hid (Blk w8 gk 23 (cellsB dk).toArray) := by unfold Hid; rw [hw8, ← hgk]; exact K7.out.alloc _
  have D8 : Hid (Below W0.heap.size W0 w8) := by unfold Hid; rw [hw8]; exact bel_on D7.out (alloc_bel _ _)
  have HNE : Hid (gk ≠ ga ∧ W0.heap.size ≤ ga) := ⟨by have := K7.out.lt; omega, by rw [← hga]; exact D7.out.size⟩
  rw [hga, hgk]
  clear hw8 hmk K7 D7 D6 hga hgk
  go_loopw [7] (fun vi wr => ∃ p : Nat, p ≤ i ∧ vi = .int .i64 (p : Int) ∧ Hid (Blk wr ga 3 (cellsL (fillL i p)).toArray) ∧ Hid (Blk wr gk 23 (cellsB dk).toArray) ∧ Below W0.heap.size W0 wr) (fun vi _ => i - (intOf vi).toNat)
  case atStart => exact ⟨0, by omega, rfl, A8.out, K8.out, D8.out⟩
  case round =>
    obtain ⟨p, hp, rfl, HA, HK, hbel⟩ := hrel
    by_cases hlt : p < i
    · have hii : (p : Int) < i := by omega
      have hi0 : (0 : Int) ≤ p := by omega
      have ki := (HA.out.cell p).trans (cellsL_get (l := fillL i p) (by rw [fillL_length]; exact hlt))
      have fi := HA.out.frozen p
      have A5 := HA.out.set_ p (.int .i64 (p : Int))
      rw [cellsL_put, fillL_set hlt] at A5
      have K5 := HK.out.far (p := ⟨ga, p, none⟩) HNE.out.1 (.int .i64 (p : Int))
      have D5 := hbel.setCell (p := ⟨ga, p, none⟩) HNE.out.2 (.int .i64 (p : Int))
      go_wp2_with fail
      go_roundw
      case rel => exact ⟨p + 1, by omega, by go_num, A5, K5, D5⟩
      case measure => simp [intOf]; omega
    · obtain rfl : p = i := by omega
      have hx : ¬ ((p : Int) < p) := by omega
      rw [fillL_all] at HA
      have HA9 := Lib.hid HA.out
      have HK9 := Lib.hid HK.out
      have HB9 := Lib.hid hbel
      clear HA HK hbel
      go_wp2_with fail
      obtain ⟨i, hi_⟩ : ∃ i, i = p := ⟨_, rfl⟩
      subst hi_
      go_loopw [8] (fun vi wr => ∃ (i0 : Nat) (l : List Nat), i0 < i ∧ vi = .int .i64 (i0 : Int) ∧ l.length = i ∧ Hid (arrD num i0 l = atl) ∧ Hid (Blk wr ga 3 (cellsL l).toArray) ∧ Hid (Blk wr gk 23 (cellsB dk).toArray) ∧ Below W0.heap.size W0 wr) (fun vi _ => (intOf vi).toNat)
      case atStart => exact ⟨m, List.range i, by have := HNM.out; omega, by first | rfl | (rw [em]) | (rw [em']), by simp, by unfold Hid; rw [HAT.out, HM.out], HA9.out, HK9.out, HB9.out⟩
      case round =>
        obtain ⟨p, l, hp, rfl, hlen, HAR, HA8, HK8, hbel8⟩ := hrel
        by_cases hp0 : 0 < p
        · obtain ⟨i0, hi0⟩ : ∃ i0, p = i0 + 1 := ⟨p - 1, by omega⟩
          have hpi : (0 : Int) < p := by omega
          have hpi1 : (1 : Int) ≤ p := by omega
          have e1 : IntKind.i64.wrap ((p : Int) - 1) = (i0 : Int) := by rw [IntKind.wrap_i64]; omega
          have e1' : (p : Int) - 1 = (i0 : Int) := by omega
          have u1 : IntKind.u64.wrap (p : Int) = (p : Int) := by rw [IntKind.wrap_u64]; omega
          have u2 : IntKind.u64.wrap ((p : Int) + 1) = (p : Int) + 1 := by rw [IntKind.wrap_u64]; omega
          have HN1 := Lib.hid (HNU.out p hp)
          have HNP := HNL.out p hp
          have HJ : Hid (arrD num i0 (swapL l p (num p)) = atl) := by
            unfold Hid
            have := HAR.out
            rw [hi0, arrD, ← hi0] at this
            exact this
          obtain ⟨j, hj⟩ : ∃ j, num p = j := ⟨_, rfl⟩
          rw [hj] at HN1 HNP HJ
          have hji : (j : Int) < i := by omega
          have hj0 : (0 : Int) ≤ j := by omega
          have u3 : IntKind.i64.wrap (j : Int) = (j : Int) := by rw [IntKind.wrap_i64]; omega
          clear hj hi0
          go_wp2_with (first
            | (refine wpList_load_row rfl 23 (.tmp 5) rfl gk rfl 23 (cellsB dk).toArray (0, 0) _ HK8.out under_key rfl (cellsB_size _ HDK.out) ?_)
            | (go_at_call 135; (with_reducible refine (HN1.out _).mono ?_); rintro e w9 ⟨rfl, hb⟩; have A9 := Lib.hid (HA8.out.below' hb); have K9 := Lib.hid (HK8.out.below' hb); have D9 := Lib.hid (bel_on hbel8 hb); clear hb))
          refine wp_region_noPanic ?_
          have hpii : (p : Int) < i := by omega
          have hp00 : (0 : Int) ≤ p := by omega
          have hji2 : j < i := by omega
          have hpi2 : p < i := by omega
          have ki := (A9.out.drew.cell p).trans (cellsL_get (l := l) (by omega))
          have kj := (A9.out.drew.cell j).trans (cellsL_get (l := l) (by omega))
          obtain ⟨wr, hwr⟩ : ∃ W, W = w9.drew := ⟨_, rfl⟩
          have A10 : Blk wr ga 3 (cellsL l).toArray := by rw [hwr]; exact A9.out.drew
          have K10 : Blk wr gk 23 (cellsB dk).toArray := by rw [hwr]; exact K9.out.drew
          have D10 : Below W0.heap.size W0 wr := by rw [hwr]; exact D9.out.drew
          refine wp_region_held_drew (S := fun _ => True) (by kernel_rfl) trivial (fun _ => ?_)
          rw [← hwr] at ki kj ⊢
          clear hwr
          obtain ⟨x, hx⟩ : ∃ x, l.getD j 0 = x := ⟨_, rfl⟩
          obtain ⟨y, hy⟩ : ∃ y, l.getD p 0 = y := ⟨_, rfl⟩
          have HSW : Hid (swapL l p j = (l.set p x).set j y) := by unfold Hid swapL; rw [hx, hy]
          rw [hx] at kj
          rw [hy] at ki
          have fi := A10.frozen p
          have A11 := A10.set_ p (.int .i64 (x : Int))
          rw [cellsL_put] at A11
          have K11 := K10.far (p := ⟨ga, p, none⟩) HNE.out.1 (.int .i64 (x : Int))
          have D11 := D10.setCell (p := ⟨ga, p, none⟩) HNE.out.2 (.int .i64 (x : Int))
          have kj2 := (A11.cell j).trans (cellsL_get (l := l.set p x) (by rw [List.length_set]; omega))
          have fj2 := A11.frozen j
          have A12 := A11.set_ j (.int .i64 (y : Int))
          rw [cellsL_put] at A12
          have K12 := Lib.hid (K11.far (p := ⟨ga, j, none⟩) HNE.out.1 (.int .i64 (y : Int)))
          have D12 := Lib.hid (D11.setCell (p := ⟨ga, j, none⟩) HNE.out.2 (.int .i64 (y : Int)))
          rw [← HSW.out] at A12
          have A12 := Lib.hid A12
          obtain ⟨z, hz⟩ : ∃ z, (l.set p x).getD j 0 = z := ⟨_, rfl⟩
          rw [hz] at kj2
          have HSL : Hid ((swapL l p j).length = i) := by unfold Hid; rw [swapL_length, hlen]
          have hlp : p ≤ i := by omega
          have HI0 : Hid (i0 < i) := by unfold Hid; omega
          have HME : Hid (i0 < p) := by unfold Hid; omega
          clear hx hy hz hlen A10 K10 D10 A11 K11 D11 A9 K9 D9 HA8 HK8 hbel8 HAR HSW
          generalize swapL l p j = l2 at A12 HSL HJ
          refine hd_take 0 (.slice (some ⟨ga, 0, none⟩) i i) rfl rfl (by kernel_rfl) (by kernel_rfl) (by kernel_rfl) (fun _ _ _ h => h) (fun w hw => by go_simp) trivial ?_
          refine hd_take 1 (.int .i64 (p : Int)) rfl rfl (by kernel_rfl) (by kernel_rfl) (by kernel_rfl) (fun _ _ _ h => h) (fun w hw => by go_simp) trivial ?_
          refine hd_take 2 (.slice (some ⟨ga, 0, none⟩) i i) rfl rfl (by kernel_rfl) (by kernel_rfl) (by kernel_rfl) (fun _ _ _ h => h) (fun w hw => by go_simp) trivial ?_
          refine hd_take 3 (.int .i64 (j : Int)) rfl rfl (by kernel_rfl) (by kernel_rfl) (by kernel_rfl) (fun _ _ _ h => h) (fun w hw => by go_simp) trivial ?_
          refine hd_take 4 (.slice (some ⟨ga, 0, none⟩) i i) rfl rfl (by kernel_rfl) (by kernel_rfl) (by kernel_rfl) (fun _ _ _ h => h) (fun w hw => by go_simp) trivial ?_
          refine hd_take 5 (.int .i64 (j : Int)) rfl rfl (by kernel_rfl) (by kernel_rfl) (by kernel_rfl) (fun _ _ _ h => h) (fun w hw => by go_simp) trivial ?_
          refine hd_take 8 (.slice (some ⟨ga, 0, none⟩) i i) rfl rfl (by kernel_rfl) (by kernel_rfl) (by kernel_rfl) (fun _ _ _ h => h) (fun w hw => by go_simp) trivial ?_
          refine hd_take 9 (.int .i64 (p : Int)) rfl rfl (by kernel_rfl) (by kernel_rfl) (by kernel_rfl) (fun _ _ _ h => h) (fun w hw => by go_simp) trivial ?_
          simp only [List.getElem_toArray, List.getElem_cons_succ, List.getElem_cons_zero, Act.put, List.setIfInBounds_toArray, List.set_cons_zero, List.set_cons_succ]
          refine hd_take 6 (.pointer (some ⟨ga, j, none⟩)) rfl rfl (by kernel_rfl) (by kernel_rfl) (by kernel_rfl) (fun _ _ _ h => h) (fun w hw => by go_simp) trivial ?_
          refine hd_take 10 (.pointer (some ⟨ga, p, none⟩)) rfl rfl (by kernel_rfl) (by kernel_rfl) (by kernel_rfl) (fun _ _ _ h => h) (fun w hw => by go_simp) trivial ?_
          simp only [List.getElem_toArray, List.getElem_cons_succ, List.getElem_cons_zero, Act.put, List.setIfInBounds_toArray, List.set_cons_zero, List.set_cons_succ]
          refine hd_two 7 11 (by kernel_rfl) (op_run (.int .i64 (x : Int)) wr rfl rfl (by simp [go_sem, kj]) ⟨trivial, ?_⟩) (op_run (.int .i64 (y : Int)) wr rfl rfl (by simp [go_sem, ki]) ⟨trivial, ?_⟩)
          · simp only [List.getElem_toArray, List.getElem_cons_succ, List.getElem_cons_zero, Act.put, List.setIfInBounds_toArray, List.set_cons_zero, List.set_cons_succ]
            refine hd_sole 11 (by kernel_rfl) (op_run (.int .i64 (y : Int)) wr rfl rfl (by simp [go_sem, ki]) ⟨trivial, ?_⟩)
            simp only [List.getElem_toArray, List.getElem_cons_succ, List.getElem_cons_zero, Act.put, List.setIfInBounds_toArray, List.set_cons_zero, List.set_cons_succ]
            refine hd_take 12 (.pointer (some ⟨ga, p, none⟩)) rfl rfl (by kernel_rfl) (by kernel_rfl) (by kernel_rfl) (fun _ _ _ h => h) (fun w hw => by go_simp) trivial ?_
            simp only [List.getElem_toArray, List.getElem_cons_succ, List.getElem_cons_zero, Act.put, List.setIfInBounds_toArray, List.set_cons_zero, List.set_cons_succ]
            refine hd_sole 13 (by kernel_rfl) (op_skip (wr.setCell ⟨ga, p, none⟩ (.int .i64 (x : Int))) rfl rfl (by simp [go_sem, ki, fi]) ⟨trivial, ?_⟩)
            simp only [List.getElem_toArray, List.getElem_cons_succ, List.getElem_cons_zero, Act.put, List.setIfInBounds_toArray, List.set_cons_zero, List.set_cons_succ]
            refine hd_take 14 (.pointer (some ⟨ga, j, none⟩)) rfl rfl (by kernel_rfl) (by kernel_rfl) (by kernel_rfl) (fun _ _ _ h => h) (fun w hw => by go_simp) trivial ?_
            simp only [List.getElem_toArray, List.getElem_cons_succ, List.getElem_cons_zero, Act.put, List.setIfInBounds_toArray, List.set_cons_zero, List.set_cons_succ]
            refine hd_sole 15 (by kernel_rfl) (op_skip ((wr.setCell ⟨ga, p, none⟩ (.int .i64 (x : Int))).setCell ⟨ga, j, none⟩ (.int .i64 (y : Int))) rfl rfl (by simp [go_sem, kj2, fj2]) ⟨trivial, ?_⟩)
            refine wpAnyH_done (by kernel_rfl) (NoPanic.normal ?_) _
            simp only [List.getElem_toArray, List.getElem_cons_succ, List.getElem_cons_zero, Act.put, List.setIfInBounds_toArray, List.set_cons_zero, List.set_cons_succ]
            go_wp2_with fail
            go_roundw
            case rel => exact ⟨i0, l2, HI0.out, by first | rfl | (rw [e1]) | go_num, HSL.out, HJ.out, A12.out, K12.out, D12.out⟩
            case measure => have := HME.out; simp [intOf, e1]; omega
          · simp only [List.getElem_toArray, List.getElem_cons_succ, List.getElem_cons_zero, Act.put, List.setIfInBounds_toArray, List.set_cons_zero, List.set_cons_succ]
            refine hd_sole 7 (by kernel_rfl) (op_run (.int .i64 (x : Int)) wr rfl rfl (by simp [go_sem, kj]) ⟨trivial, ?_⟩)
            simp only [List.getElem_toArray, List.getElem_cons_succ, List.getElem_cons_zero, Act.put, List.setIfInBounds_toArray, List.set_cons_zero, List.set_cons_succ]
            refine hd_take 12 (.pointer (some ⟨ga, p, none⟩)) rfl rfl (by kernel_rfl) (by kernel_rfl) (by kernel_rfl) (fun _ _ _ h => h) (fun w hw => by go_simp) trivial ?_
            simp only [List.getElem_toArray, List.getElem_cons_succ, List.getElem_cons_zero, Act.put, List.setIfInBounds_toArray, List.set_cons_zero, List.set_cons_succ]
            refine hd_sole 13 (by kernel_rfl) (op_skip (wr.setCell ⟨ga, p, none⟩ (.int .i64 (x : Int))) rfl rfl (by simp [go_sem, ki, fi]) ⟨trivial, ?_⟩)
            simp only [List.getElem_toArray, List.getElem_cons_succ, List.getElem_cons_zero, Act.put, List.setIfInBounds_toArray, List.set_cons_zero, List.set_cons_succ]
            refine hd_take 14 (.pointer (some ⟨ga, j, none⟩)) rfl rfl (by kernel_rfl) (by kernel_rfl) (by kernel_rfl) (fun _ _ _ h => h) (fun w hw => by go_simp) trivial ?_
            simp only [List.getElem_toArray, List.getElem_cons_succ, List.getElem_cons_zero, Act.put, List.setIfInBounds_toArray, List.set_cons_zero, List.set_cons_succ]
            refine hd_sole 15 (by kernel_rfl) (op_skip ((wr.setCell ⟨ga, p, none⟩ (.int .i64 (x : Int))).setCell ⟨ga, j, none⟩ (.int .i64 (y : Int))) rfl rfl (by simp [go_sem, kj2, fj2]) ⟨trivial, ?_⟩)
            refine wpAnyH_done (by kernel_rfl) (NoPanic.normal ?_) _
            simp only [List.getElem_toArray, List.getElem_cons_succ, List.getElem_cons_zero, Act.put, List.setIfInBounds_toArray, List.set_cons_zero, List.set_cons_succ]
            go_wp2_with fail
            go_roundw
            case rel => exact ⟨i0, l2, HI0.out, by first | rfl | (rw [e1]) | go_num, HSL.out, HJ.out, A12.out, K12.out, D12.out⟩
            case measure => have := HME.out; simp [intOf, e1]; omega
        · obtain rfl : p = 0 := by omega
          have hx0 : ¬ ((0 : Int) ≥ 1) := by omega
          go_wp2_with fail
          go_ret
          have hA : Blk wr ga 3 (cellsL atl).toArray := by
            have := HAR.out
            rw [arrD] at this
            rw [← this]; exact HA8.out
          exact ⟨⟨ga, rfl, hA⟩, bel_on b0.out hbel8⟩
end Go.Proofs.YtenpkmgbaajeeaaGreat

/- Words, weights and names of a code of steps: the reference's. -/
namespace Go.Proofs.YtenpkmgbaajeeaaGreat
open Go.RowKit
set_option linter.unusedVariables false
set_option linter.unusedSimpArgs false

set_option maxHeartbeats 8000000 in
set_option maxRecDepth 1000000 in
theorem StepsWord_at (s : StV) (x : Nat) (w : World) (h : StOK w s) (hok : s.ok = true) (hx : (x : Int) < s.u) :
    Calls Tryz.prog 68 #[.agg s.cs.toArray, .int .i64 (x : Int)] w fun e w' => (∃ g, w.heap.size ≤ g ∧ e = .returned (.slice (some ⟨g, 0, none⟩) s.n s.n) ∧ Blk w' g 5 (cellsB (s.word x)).toArray) ∧ Below w.heap.size w w' := by
  have hk := h.k16
  obtain ⟨d, m, hd, hu, hd1, hd2, hm1, hm2, hn⟩ := StV.nats hok
  obtain ⟨hn1, hn2, -⟩ := StV.n_le hok
  have HAR := Lib.hid (StV.arr (s := s) (by omega))
  obtain ⟨W0, hW0⟩ : ∃ W : World, W = w.alloc (.cells s.cs.toArray 29) := ⟨_, rfl⟩
  have b0 : Hid (Below w.heap.size w W0) := by unfold Hid; rw [hW0]; exact alloc_below _ _
  have x0 : Hid (Blk W0 w.heap.size 29 s.cs.toArray) := by unfold Hid; rw [hW0]; exact Blk.new w _ _
  have HW0 := Lib.hid hW0
  have HCL : Hid (∀ W, Below W0.heap.size W0 W → W.cell? ⟨w.heap.size, 0, none⟩ = some (.int .i64 ((m : Int) + 1)) ∧ W.cell? ⟨w.heap.size, 1, none⟩ = some (.int .i64 (d : Int)) ∧ W.rangeAt w.heap.size 2 (cellsB s.k)) := fun W hW => by
    have hB := x0.out.below' hW
    obtain ⟨c0, c1, -, -⟩ := StV.cells hk hB
    rw [hu] at c0
    rw [hd] at c1
    exact ⟨c0, c1, StV.key hB.range⟩
  have HAA : Hid (∀ W, Calls Tryz.prog 122 #[.agg (cellsB s.k).toArray, .int .i64 (s.n : Int)] W fun e w' => (∃ ga, e = .returned (.slice (some ⟨ga, 0, none⟩) s.n s.n) ∧ Blk w' ga 3 (cellsL s.at_).toArray) ∧ Below W.heap.size W w') := fun W => Arranged_any s W hk hok
  have HAL : Hid (s.at_.length = s.n) := (StV.arr (s := s) (by omega)).1
  have hW_ : s.word x = stepWord s.at_ s.n (x * d) := by unfold StV.word; rw [hd, Int.toNat_natCast]
  rw [hW_]
  have HWS : Hid (∀ y, wordF s.at_ s.n (x * d) s.n = y → stepWord s.at_ s.n (x * d) = y) := fun y hy => hy
  have HKK : Hid (s.k.length = 16) := hk
  have HDV : Hid (∀ i, x ≤ i / d ↔ x * d ≤ i) := fun i => by rw [Nat.le_div_iff_mul_le (by omega)]
  have e1 : IntKind.i64.wrap ((m : Int) + 1 - 1) = (m : Int) := by rw [IntKind.wrap_i64]; omega
  have e2' : (m : Int) * (d : Int) = (s.n : Int) := by rw [hn, Int.natCast_mul]
  have e2 : IntKind.i64.wrap ((m : Int) * (d : Int)) = (s.n : Int) := by rw [e2', IntKind.wrap_i64]; omega
  obtain ⟨lo, hlo⟩ : ∃ lo, x * d = lo := ⟨_, rfl⟩
  rw [hlo] at HWS HDV ⊢
  generalize s.at_ = at_ at *
  generalize s.n = n at *
  generalize s.k = sk at *
  generalize s.cs = cs at *
  have hxi : (x : Int) ≤ 15 := by omega
  clear h hn hok hlo hd hu hW_ hx hW0 hk
  have hni : (n : Int) ≤ 960 := by omega
  have hdi : (1 : Int) ≤ d := by omega
  have hdi2 : (d : Int) ≤ 64 := by omega
  have hdn : ¬ ((d : Int) = 0) := by omega
  have hmk : ∀ W : World, (Instr.makeSlice 30 (.int .i64 (n : Int)) (.int .i64 (n : Int))).run Tryz.prog W = .ok (.slice (some ⟨W.heap.size, 0, none⟩) n n) (W.alloc (.cells (cellsB (List.replicate n 0)).toArray 5)) := fun W => by
    have := run_make_row' (P := Tryz.prog) 30 5 (.int .u8 0) 1 Tryz.underlying30 (by kernel_rfl) rfl .i64 .i64 n (by omega) (by omega) W
    rwa [made_bytes] at this
  obtain ⟨c0, c1, HR0⟩ := HCL.out _ (Below.refl _ _)
  have HR0 := Lib.hid HR0
  go_enter Tryz.func68, Tryz.ntmps68
  go_wp2_with (first
    | (rw [← HW0.out])
    | (refine wpList_load_mid rfl 23 (.tmp 8) rfl w.heap.size 2 rfl (cellsB sk) _ HR0.out under_key rfl (infoL16 (by rw [cellsB_length, HKK.out])) ?_)
    | (go_at_call 122; (with_reducible refine (HAA.out _).mono ?_); rintro e w1 ⟨⟨ga, rfl, hA⟩, hb⟩; have A1 := Lib.hid hA; have D1 := Lib.hid hb; clear hA hb c0 c1))
  obtain ⟨g2, hg2⟩ : ∃ g2, w1.heap.size = g2 := ⟨_, rfl⟩
  obtain ⟨wm, hwm⟩ : ∃ W, W = w1.alloc (.cells (cellsB (List.replicate n 0)).toArray 5) := ⟨_, rfl⟩
  have BM : Hid (Blk wm g2 5 (cellsB (wordF at_ n lo 0)).toArray) := by
    unfold Hid
    rw [wordF_low at_ n lo (Nat.zero_le _), hwm, ← hg2]
    exact Blk.new _ _ _
  have DM : Hid (Below w1.heap.size w1 wm) := by unfold Hid; rw [hwm]; exact alloc_bel _ _
  rw [← hwm, hg2]
  have HG2 : Hid (w1.heap.size = g2) := hg2
  have HD1 : Hid (∀ W, Below w1.heap.size w1 W → Below W0.heap.size W0 W) := fun W hW => bel_on D1.out hW
  have HEL : Hid (∀ W, Below w1.heap.size w1 W → ∀ i, i < n → W.cell? ⟨ga, i, none⟩ = some (.int .i64 ((at_.getD i 0 : Nat) : Int))) := fun W hW i hi => ((A1.out.below' hW).cell i).trans (cellsL_get (by rw [HAL.out]; exact hi))
  clear hwm hg2 hmk
  go_loopw [7] (fun vi wr => ∃ i : Nat, i ≤ n ∧ vi = .int .i64 (i : Int) ∧ Hid (Blk wr g2 5 (cellsB (wordF at_ n lo i)).toArray) ∧ Below w1.heap.size w1 wr) (fun vi _ => n - (intOf vi).toNat)
  case atStart => exact ⟨0, by omega, rfl, BM.out, DM.out⟩
  case round =>
    obtain ⟨i, hi, rfl, HB, hbel⟩ := hrel
    obtain ⟨c0, c1, -⟩ := HCL.out _ (HD1.out _ hbel)
    by_cases hlt : i < n
    · have hii : (i : Int) < n := by omega
      have hi0 : (0 : Int) ≤ i := by omega
      have hq := HDV.out i
      obtain ⟨q, hqe⟩ : ∃ q, i / d = q := ⟨_, rfl⟩
      rw [hqe] at hq
      have hqle : q ≤ i := by rw [← hqe]; exact Nat.div_le_self _ _
      have t1 : (i : Int).tdiv (d : Int) = (q : Int) := by rw [← hqe]; rfl
      have t2 : IntKind.i64.wrap ((i : Int).tdiv (d : Int)) = (q : Int) := by rw [t1, IntKind.wrap_i64]; omega
      by_cases hx : x ≤ q
      · have hxq : (x : Int) ≤ q := by omega
        have HS := Lib.hid (wordF_yes (at_ := at_) (n := n) (hq.1 hx))
        have kat := HEL.out _ hbel i hlt
        have hpl := HAR.out.2.1 i hlt
        obtain ⟨p, hp⟩ : ∃ p, at_.getD i 0 = p := ⟨_, rfl⟩
        rw [hp] at kat hpl HS
        have hpi : (p : Int) < n := by omega
        have hp0 : (0 : Int) ≤ p := by omega
        have kp := (HB.out.cell p).trans (cellsB_at (by rw [wordF_length]; exact hpl))
        have fp := HB.out.frozen p
        have B5 := HB.out.set_ p (.int .u8 1)
        rw [cellsB_put, ← HS.out] at B5
        have B6 := Lib.hid B5
        have D5 := Lib.hid (hbel.setCell (p := ⟨g2, p, none⟩) (Nat.le_of_eq HG2.out) (.int .u8 1))
        clear hp B5 HB hqe hq
        generalize wordF at_ n lo i = l1 at kp HS
        generalize bt l1 p = bz at kp
        go_wp2_with fail
        go_roundw
        case rel => exact ⟨i + 1, by omega, by go_num, B6.out, D5.out⟩
        case measure => simp [intOf]; omega
      · have hxq : ¬ (x : Int) ≤ q := by omega
        have HS := Lib.hid (wordF_no (at_ := at_) (n := n) (lo := lo) (i := i) (by have := mt hq.2 hx; omega))
        clear hqe hq
        go_wp2_with fail
        go_roundw
        case rel => exact ⟨i + 1, by omega, by go_num, by unfold Hid; rw [HS.out]; exact HB.out, hbel⟩
        case measure => simp [intOf]; omega
    · obtain rfl : i = n := by omega
      have hx : ¬ ((i : Int) < i) := by omega
      go_wp2_with fail
      go_ret
      exact ⟨⟨g2, by have := HG2.out; have := b0.out.size; have := D1.out.size; omega, rfl, by rw [HWS.out _ rfl]; exact HB.out⟩, bel_on b0.out (HD1.out _ hbel)⟩

theorem StepsWord_any (s : StV) (x : Nat) (w : World) (h : StOK w s) (hok : s.ok = true) (hx : (x : Int) < s.u) :
    Calls Tryz.prog 68 #[.agg s.cs.toArray, .int .i64 (x : Int)] w fun e w' => (∃ g, e = .returned (.slice (some ⟨g, 0, none⟩) s.n s.n) ∧ Blk w' g 5 (cellsB (s.word x)).toArray) ∧ Below w.heap.size w w' :=
  (StepsWord_at s x w h hok hx).mono fun e w' ⟨⟨g, _, h1, h2⟩, h3⟩ => ⟨⟨g, h1, h2⟩, h3⟩

set_option maxHeartbeats 8000000 in
set_option maxRecDepth 1000000 in
theorem WeightsOf_any (s : StV) (Y : Option Addr) (c : Nat) (y : List UInt8) (w : World) (h : StOK w s) (hok : s.ok = true) {n0 : Nat} (hy : y.length = n0) (hn0 : n0 = s.n) (hY : BR w Y c y) :
    Calls Tryz.prog 73 #[.agg s.cs.toArray, .slice Y n0 c] w fun e w' => (∃ g, e = .returned (.slice (some ⟨g, 0, none⟩) (s.u.toNat - 1) (s.u.toNat - 1)) ∧ Blk w' g 3 (cellsL (s.wts y)).toArray) ∧ Below w.heap.size w w' := by
  have hk := h.k16
  obtain ⟨d, m, hd, hu, hd1, hd2, hm1, hm2, hn⟩ := StV.nats hok
  obtain ⟨hn1, hn2, -⟩ := StV.n_le hok
  have HAR := Lib.hid (StV.arr (s := s) (by omega))
  obtain ⟨W0, hW0⟩ : ∃ W : World, W = w.alloc (.cells s.cs.toArray 29) := ⟨_, rfl⟩
  have b0 : Hid (Below w.heap.size w W0) := by unfold Hid; rw [hW0]; exact alloc_below _ _
  have x0 : Hid (Blk W0 w.heap.size 29 s.cs.toArray) := by unfold Hid; rw [hW0]; exact Blk.new w _ _
  have HW0 := Lib.hid hW0
  have HCL : Hid (∀ W, Below W0.heap.size W0 W → W.cell? ⟨w.heap.size, 0, none⟩ = some (.int .i64 ((m : Int) + 1)) ∧ W.cell? ⟨w.heap.size, 1, none⟩ = some (.int .i64 (d : Int)) ∧ W.rangeAt w.heap.size 2 (cellsB s.k)) := fun W hW => by
    have hB := x0.out.below' hW
    obtain ⟨c0, c1, -, -⟩ := StV.cells hk hB
    rw [hu] at c0
    rw [hd] at c1
    exact ⟨c0, c1, StV.key hB.range⟩
  have HAA : Hid (∀ W, Calls Tryz.prog 122 #[.agg (cellsB s.k).toArray, .int .i64 (s.n : Int)] W fun e w' => (∃ ga, e = .returned (.slice (some ⟨ga, 0, none⟩) s.n s.n) ∧ Blk w' ga 3 (cellsL s.at_).toArray) ∧ Below W.heap.size W w') := fun W => Arranged_any s W hk hok
  have HAL : Hid (s.at_.length = s.n) := (StV.arr (s := s) (by omega)).1
  have hW_ : s.wts y = weightsS s.at_ y d m := by unfold StV.wts; rw [hd, hu, Int.toNat_natCast, Int.toNat_natCast, Nat.add_sub_cancel]
  have hum : s.u.toNat - 1 = m := by rw [hu, Int.toNat_natCast, Nat.add_sub_cancel]
  rw [hW_, hum]
  have HWS : Hid (∀ z, weightF s.at_ y d m s.n = z → weightsS s.at_ y d m = z) := fun z hz => by unfold weightsS; rw [(StV.arr (s := s) (by omega)).1]; exact hz
  have HDV : Hid (∀ i, i < s.n → i / d < m) := fun i hi => by rw [Nat.div_lt_iff_lt_mul (by omega), ← hn]; exact hi
  have HKK : Hid (s.k.length = 16) := hk
  have e1 : IntKind.i64.wrap ((m : Int) + 1 - 1) = (m : Int) := by rw [IntKind.wrap_i64]; omega
  subst hn0
  generalize s.at_ = at_ at *
  generalize s.n = n at *
  generalize s.k = sk at *
  generalize s.cs = cs at *
  have HYL := Lib.hid hy
  have HYW : Hid (∀ W, Below w.heap.size w W → BR W Y c y) := fun W hW => hY.below hW
  clear h hn hok hd hu hW_ hW0 hum hk hy hY
  have hni : (n : Int) ≤ 960 := by omega
  have hmi : (m : Int) ≤ 15 := by omega
  have hdi : (1 : Int) ≤ d := by omega
  have hdi2 : (d : Int) ≤ 64 := by omega
  have hdn : ¬ ((d : Int) = 0) := by omega
  have hmk : ∀ W : World, (Instr.makeSlice 38 (.int .i64 (m : Int)) (.int .i64 (m : Int))).run Tryz.prog W = .ok (.slice (some ⟨W.heap.size, 0, none⟩) m m) (W.alloc (.cells (cellsL (List.replicate m 0)).toArray 3)) := fun W => by
    have := run_make_row' (P := Tryz.prog) 38 3 (.int .i64 0) 8 Tryz.underlying38 (by kernel_rfl) rfl .i64 .i64 m (by omega) (by omega) W
    rwa [made_L, fillL_zero] at this
  obtain ⟨c0, c1, HR0⟩ := HCL.out _ (Below.refl _ _)
  have HR0 := Lib.hid HR0
  go_enter Tryz.func73, Tryz.ntmps73
  go_wp2_with (first
    | (rw [← HW0.out])
    | (refine wpList_load_mid rfl 23 (.tmp 8) rfl w.heap.size 2 rfl (cellsB sk) _ HR0.out under_key rfl (infoL16 (by rw [cellsB_length, HKK.out])) ?_)
    | (go_at_call 122; (with_reducible refine (HAA.out _).mono ?_); rintro e w1 ⟨⟨ga, rfl, hA⟩, hb⟩; have A1 := Lib.hid hA; have D1 := Lib.hid hb; clear hA c0 c1; obtain ⟨c0, c1, -⟩ := HCL.out _ hb; clear hb))
  clear c0 c1
  obtain ⟨g2, hg2⟩ : ∃ g2, w1.heap.size = g2 := ⟨_, rfl⟩
  obtain ⟨wm, hwm⟩ : ∃ W, W = w1.alloc (.cells (cellsL (List.replicate m 0)).toArray 3) := ⟨_, rfl⟩
  have BM : Hid (Blk wm g2 3 (cellsL (weightF at_ y d m 0)).toArray) := by
    unfold Hid
    rw [hwm, ← hg2]
    exact Blk.new _ _ _
  have DM : Hid (Below w1.heap.size w1 wm) := by unfold Hid; rw [hwm]; exact alloc_bel _ _
  rw [← hwm, hg2]
  have HG2 : Hid (w1.heap.size = g2) := hg2
  have HD1 : Hid (∀ W, Below w1.heap.size w1 W → Below W0.heap.size W0 W) := fun W hW => bel_on D1.out hW
  have HEL : Hid (∀ W, Below w1.heap.size w1 W → ∀ i, i < n → W.cell? ⟨ga, i, none⟩ = some (.int .i64 ((at_.getD i 0 : Nat) : Int))) := fun W hW i hi => ((A1.out.below' hW).cell i).trans (cellsL_get (by rw [HAL.out]; exact hi))
  clear hwm hg2 hmk
  go_loopw [7] (fun vi wr => ∃ i : Nat, i ≤ n ∧ vi = .int .i64 (i : Int) ∧ Hid (Blk wr g2 3 (cellsL (weightF at_ y d m i)).toArray) ∧ Below w1.heap.size w1 wr) (fun vi _ => n - (intOf vi).toNat)
  case atStart => exact ⟨0, by omega, rfl, BM.out, DM.out⟩
  case round =>
    obtain ⟨i, hi, rfl, HB, hbel⟩ := hrel
    obtain ⟨c0, c1, -⟩ := HCL.out _ (HD1.out _ hbel)
    by_cases hlt : i < n
    · have hii : (i : Int) < n := by omega
      have hi0 : (0 : Int) ≤ i := by omega
      have kat := HEL.out _ hbel i hlt
      have hpl := HAR.out.2.1 i hlt
      obtain ⟨p, hp⟩ : ∃ p, at_.getD i 0 = p := ⟨_, rfl⟩
      rw [hp] at kat hpl
      have hpi : (p : Int) < n := by omega
      have hp0 : (0 : Int) ≤ p := by omega
      obtain ⟨b, off, rfl, hb, hc⟩ := (HYW.out _ (bel_on b0.out (HD1.out _ hbel))).at_ (i := p) (by have := HYL.out; omega)
      have hq := HDV.out i hlt
      obtain ⟨q, hqe⟩ : ∃ q, i / d = q := ⟨_, rfl⟩
      rw [hqe] at hq
      have hqi : (q : Int) < m := by omega
      have hq0 : (0 : Int) ≤ q := by omega
      have t1 : (i : Int).tdiv (d : Int) = (q : Int) := by rw [← hqe]; rfl
      have t2 : IntKind.i64.wrap ((i : Int).tdiv (d : Int)) = (q : Int) := by rw [t1, IntKind.wrap_i64]; omega
      have kq := (HB.out.cell q).trans (cellsL_get (l := weightF at_ y d m i) (by rw [weightF_length]; exact hq))
      have fq := HB.out.frozen q
      by_cases hyp : y.getD p 0 = 1
      · have HS := Lib.hid (weightF_yes (at_ := at_) (B := d) (m := m) (i := i) (y := y) (by rw [hp]; exact hyp))
        have hbt : bt y p = 1 := by unfold bt; rw [hyp]; rfl
        rw [hbt] at hc
        rw [hqe] at HS
        obtain ⟨v, hv⟩ : ∃ v, (weightF at_ y d m i).getD q 0 = v := ⟨_, rfl⟩
        have hvl : v ≤ 64 := by rw [← hv]; exact Nat.le_trans (weightF_le at_ y d m (by omega) hq) hd2
        have hvi : (v : Int) ≤ 64 := by omega
        have hvi0 : (0 : Int) ≤ v := by omega
        rw [hv] at kq HS
        have A5 := HB.out.set_ q (.int .i64 ((v + 1 : Nat) : Int))
        rw [cellsL_put, ← HS.out] at A5
        have A6 := Lib.hid A5
        have D5 := Lib.hid (hbel.setCell (p := ⟨g2, q, none⟩) (Nat.le_of_eq HG2.out) (.int .i64 ((v + 1 : Nat) : Int)))
        clear hp A5 HB hv hqe hyp hbt
        go_wp2_with fail
        go_roundw
        case rel => exact ⟨i + 1, by omega, by go_num, A6.out, D5.out⟩
        case measure => simp [intOf]; omega
      · have HS := Lib.hid (weightF_no (at_ := at_) (B := d) (m := m) (i := i) (y := y) (by rw [hp]; exact hyp))
        have hbt : ¬ bt y p = 1 := by
          unfold bt
          intro h1
          exact hyp (UInt8.toNat_inj.1 h1)
        have hbi : ¬ ((bt y p : Int) = 1) := by omega
        generalize bt y p = z at hc hbt hbi
        clear hp hqe hyp
        go_wp2_with fail
        go_roundw
        case rel => exact ⟨i + 1, by omega, by go_num, by rw [HS.out]; exact HB.out, hbel⟩
        case measure => simp [intOf]; omega
    · obtain rfl : i = n := by omega
      have hx : ¬ ((i : Int) < i) := by omega
      go_wp2_with fail
      go_ret
      exact ⟨⟨g2, rfl, by rw [HWS.out _ rfl]; exact HB.out⟩, bel_on b0.out (HD1.out _ hbel)⟩
end Go.Proofs.YtenpkmgbaajeeaaGreat

/- The names of a code of steps: the reference's. -/
namespace Go.Proofs.YtenpkmgbaajeeaaGreat
open Go.RowKit
set_option linter.unusedVariables false
set_option linter.unusedSimpArgs false

set_option maxHeartbeats 8000000 in
set_option maxRecDepth 1000000 in
theorem NamedOf_any (s : StV) (wb : Nat) (wl : List Nat) (w : World) (hS_ : StOK w s) (hok : s.ok = true) (hB : Blk w wb 3 (cellsL wl).toArray) (hwl : wl.length = s.u.toNat - 1) (hle : ∀ i, i < s.u.toNat - 1 → wl.getD i 0 ≤ s.b.toNat) :
    Calls Tryz.prog 76 #[.agg s.cs.toArray, .slice (some ⟨wb, 0, none⟩) (s.u.toNat - 1) (s.u.toNat - 1)] w fun e w' => (∃ A c', e = .returned (.slice A (s.nmsW wl).length c') ∧ OI w.heap.size w' A c' (s.nmsW wl)) ∧ Below w.heap.size w w' := by
  have hk := hS_.k16
  obtain ⟨d, m, hd, hu, hd1, hd2, hm1, hm2, hn⟩ := StV.nats hok
  have hum : s.u.toNat - 1 = m := by rw [hu, Int.toNat_natCast, Nat.add_sub_cancel]
  rw [hum] at hwl hle ⊢
  have HWL : Hid (wl.length = m) := hwl
  have HWB : Hid (∀ i, i < m → wl.getD i 0 ≤ d) := fun i hi => by
    have := hle i hi
    rwa [hd, Int.toNat_natCast] at this
  have HTH : Hid (∀ k : Nat, (k : Int) ≤ 2 * (d : Int) → ∀ W, Below w.heap.size w W → Calls Tryz.prog 125 #[.agg s.cs.toArray, .int .i64 (k : Int)] W fun e w' => e = .returned (.int .i64 (s.th k)) ∧ Below W.heap.size W w') := fun k hk W hW => refThresholdOf_any s k W (hS_.below hW) hok (by omega)
  obtain ⟨W0, hW0⟩ : ∃ W : World, W = w.alloc (.cells s.cs.toArray 29) := ⟨_, rfl⟩
  have b0 : Hid (Below w.heap.size w W0) := by unfold Hid; rw [hW0]; exact alloc_below _ _
  have x0 : Hid (Blk W0 w.heap.size 29 s.cs.toArray) := by unfold Hid; rw [hW0]; exact Blk.new w _ _
  have HW0 := Lib.hid hW0
  have HSX : Hid (∀ W, Below W0.heap.size W0 W → (∀ i, i < m → W.cell? ⟨wb, i, none⟩ = some (.int .i64 ((wl.getD i 0 : Nat) : Int))) ∧ W.cell? ⟨w.heap.size, 0, none⟩ = some (.int .i64 ((m : Int) + 1)) ∧ W.cell? ⟨w.heap.size, 1, none⟩ = some (.int .i64 (d : Int)) ∧ W.rangeAt w.heap.size 0 s.cs) := fun W hW => by
    have hX := x0.out.below' hW
    obtain ⟨c0, c1, -, -⟩ := StV.cells hk hX
    rw [hu] at c0
    rw [hd] at c1
    exact ⟨fun i hi => ((hB.below' (bel_on b0.out hW)).cell i).trans (cellsL_get (by rw [HWL.out]; exact hi)), c0, c1, hX.range⟩
  have HP : Hid (s.nmsW wl = namesF (namedB (m + 1) d (val s.x) (val s.y) wl) (m + 1)) := by
    unfold Hid StV.nmsW namesS
    rw [hd, hu, Int.toNat_natCast, Int.toNat_natCast]
  have HT2 : Hid (∀ k, s.th k = thS d k (val s.x) (val s.y)) := fun k => by unfold StV.th; rw [hd, Int.toNat_natCast]
  have HL20 : Hid (s.cs.length = 20) := StV.len hk
  generalize s.nmsW wl = nm at HP ⊢
  generalize val s.x = vx at HP HT2
  generalize val s.y = vy at HP HT2
  generalize s.cs = cs at *
  generalize s.th = th at HTH HT2
  obtain ⟨P, hP⟩ : ∃ P, namedB (m + 1) d vx vy wl = P := ⟨_, rfl⟩
  rw [hP] at HP
  have HP0 : Hid (P 0 = decide (0 < wl.getD 0 0)) := by unfold Hid; rw [← hP, namedB, if_pos rfl]
  have HPL : Hid (∀ i j : Nat, i = j + 1 → i = m → P i = decide (wl.getD j 0 < d)) := fun i j hi hm => by rw [← hP, namedB, if_neg (by omega), if_pos (by omega), hi, Nat.add_sub_cancel]
  have HPM : Hid (∀ i j : Nat, i = j + 1 → i < m → P i = decide ((wl.getD j 0 : Int) ≤ th (wl.getD j 0 + wl.getD i 0))) := fun i j hi hm => by
    rw [← hP, namedB, if_neg (by omega), if_neg (by omega), HT2.out, hi, Nat.add_sub_cancel]
  have hmi : (m : Int) ≤ 15 := by omega
  have hdi2 : (d : Int) ≤ 64 := by omega
  have mixed : Tryz.prog.follows Departure.mixedOrders = true := by kernel_rfl
  clear hP hS_ hok hB hwl hle hk hd hu hn hum hW0
  obtain ⟨gb, hgb⟩ : ∃ gb, w.heap.size = gb := ⟨_, rfl⟩
  obtain ⟨-, c0, -, -⟩ := HSX.out _ (Below.refl _ _)
  have HD1 : Hid (∀ W, Below W0.heap.size W0 W → Below w.heap.size w W) := fun W hW => bel_on b0.out hW
  have HWW : Hid (w.heap.size = gb) := hgb
  have HW01 : Hid (w.heap.size ≤ W0.heap.size) := b0.out.size
  go_enter Tryz.func76, Tryz.ntmps76
  go_wp2_with (rw [← HW0.out])
  rw [hgb] at HSX c0
  clear c0 hgb
  go_loopw [5, 6] (fun vs vi wr => ∃ (i l c' : Nat) (A : Option Addr), i ≤ m + 1 ∧ vi = .int .i64 (i : Int) ∧ vs = .slice A l c' ∧ Hid ((namesF P i).length = l) ∧ Hid (OI W0.heap.size wr A c' (namesF P i)) ∧ Below W0.heap.size W0 wr) (fun _ vi _ => m + 1 - (intOf vi).toNat)
  case atStart => exact ⟨0, 0, 0, none, by omega, rfl, rfl, rfl, OI.nil _ _, Below.refl _ _⟩
  case round =>
    obtain ⟨i, l, c', A, hi, rfl, rfl, HL, HO, hbel1⟩ := hrel
    obtain ⟨hcw, c0, c1, hrg⟩ := HSX.out _ hbel1
    by_cases hlt : i < m + 1
    · have hii : (i : Int) < (m : Int) + 1 := by omega
      have hi0 : (0 : Int) ≤ i := by omega
      have hll : l ≤ 16 := by have := namesF_length P i; rw [HL.out] at this; omega
      have em1 : IntKind.i64.wrap ((m : Int) + 1 - 1) = (m : Int) := by rw [IntKind.wrap_i64]; omega
      by_cases hz : i = 0
      · subst hz
        obtain ⟨v0, hv0⟩ : ∃ v, wl.getD 0 0 = v := ⟨_, rfl⟩
        have k0 := hcw 0 (by omega)
        rw [hv0] at k0
        have HP1 := HP0.out
        rw [hv0] at HP1
        have hm0 : (0 : Int) < m := by omega
        cases hb_ : P 0 with
        | true =>
          rw [hb_] at HP1
          have hv1 : (0 : Int) < v0 := by have := of_decide_eq_true HP1.symm; omega
          have HN := Lib.hid (namesF_yes hb_)
          clear HP1 hv0 hcw
          go_wp2_with (at_builtin; refine wpList_append_int _ rfl (.tmp 52) (.tmp 54) rfl W0.heap.size A l c' (namesF P 0) HL.out rfl (HO.out.below (alloc_bel wr _)) _ (some ⟨wr.heap.size, 0, none⟩) 1 rfl (src_int wr _) (by omega) (by have := (hbel1).size; simp; omega) ?_; intro A7 c7 w7 ho7 hb7 hg7; have O7 := Lib.hid ho7; have D7 := Lib.hid (((hbel1).trans ((alloc_bel wr _).mono (hbel1).size)).trans hb7); clear ho7 hb7 hg7)
          go_roundw
          case rel => exact ⟨0 + 1, l + 1, c7, A7, by omega, by go_num, rfl, by unfold Hid; rw [HN.out, List.length_append, HL.out]; rfl, by unfold Hid; rw [HN.out]; exact O7.out, D7.out⟩
          case measure => simp [intOf] <;> omega
        | false =>
          rw [hb_] at HP1
          have hv1 : ¬ (0 : Int) < v0 := by have := of_decide_eq_false HP1.symm; omega
          have HN := Lib.hid (namesF_no hb_)
          clear HP1 hv0 hcw
          go_wp2_with fail
          go_roundw
          case rel => exact ⟨0 + 1, l, c', A, by omega, by go_num, rfl, by unfold Hid; rw [HN.out]; exact HL.out, by unfold Hid; rw [HN.out]; exact HO.out, hbel1⟩
          case measure => simp [intOf] <;> omega
      · obtain ⟨j, hj⟩ : ∃ j, i = j + 1 := ⟨i - 1, by omega⟩
        have ej : IntKind.i64.wrap ((i : Int) - 1) = (j : Int) := by rw [IntKind.wrap_i64]; omega
        have ej' : (i : Int) - 1 = (j : Int) := by omega
        have hnz : ¬ ((i : Int) = 0) := by omega
        have hj0 : (0 : Int) ≤ j := by omega
        obtain ⟨v, hv⟩ : ∃ v, wl.getD j 0 = v := ⟨_, rfl⟩
        have hjm : (j : Int) < m := by omega
        obtain ⟨V, hV⟩ : ∃ V, V = wr.drew := ⟨_, rfl⟩
        have hbelV : Below W0.heap.size W0 V := by rw [hV]; exact hbel1.drew
        have OV : Hid (OI W0.heap.size V A c' (namesF P i)) := by unfold Hid; rw [hV]; exact HO.out
        by_cases hm_ : i = m
        · have HP1 := HPL.out i j hj hm_
          rw [hv] at HP1
          have HSV : Hid (∀ W, Below W0.heap.size W0 W → W.cell? ⟨wb, j, none⟩ = some (.int .i64 (v : Int)) ∧ W.cell? ⟨gb, 1, none⟩ = some (.int .i64 (d : Int)) ∧ True) := fun W hW => by
            obtain ⟨a, b, c, e⟩ := HSX.out W hW
            have := a j (by omega)
            rw [hv] at this
            exact ⟨this, c, trivial⟩
          clear hj
          subst i
          cases hb_ : P m with
          | true =>
            rw [hb_] at HP1
            have hv1 : (v : Int) < d := by have := of_decide_eq_true HP1.symm; omega
            have HN := Lib.hid (namesF_yes hb_)
            clear HP1 hv hcw hb_ hz hrg
            go_wp2_with fail
            refine wp_region_noPanic ?_
            refine wp_region_held_drew (S := fun W => W.cell? ⟨wb, j, none⟩ = some (.int .i64 (v : Int)) ∧ W.cell? ⟨gb, 1, none⟩ = some (.int .i64 (d : Int)) ∧ True) (by kernel_rfl) (by rw [← hV]; exact HSV.out _ hbelV) (fun hS => ?_)
            rw [← hV] at hS ⊢
            clear hV
            refine hd_take 0 (.slice (some ⟨wb, 0, none⟩) m m) rfl rfl (by kernel_rfl) (by kernel_rfl) (by kernel_rfl) (fun _ _ _ h => h) (fun w hw => by go_simp) hS ?_
            refine hd_take 1 (.int .i64 (m : Int)) rfl rfl (by kernel_rfl) (by kernel_rfl) (by kernel_rfl) (fun _ _ _ h => h) (fun w hw => by go_simp) hS ?_
            refine hd_take 5 (.pointer (some ⟨gb, 1, none⟩)) rfl rfl (by kernel_rfl) (by kernel_rfl) (by kernel_rfl) (fun _ _ _ h => h) (fun w hw => by go_simp) hS ?_
            simp only [List.getElem_toArray, List.getElem_cons_succ, List.getElem_cons_zero, Act.put, List.setIfInBounds_toArray, List.set_cons_zero, List.set_cons_succ]
            refine hd_take 2 (.int .i64 (j : Int)) rfl rfl (by kernel_rfl) (by kernel_rfl) (by kernel_rfl) (fun _ _ _ h => h) (fun w hw => by simp [go_sem, ej]) hS ?_
            refine hd_take 6 (.int .i64 (d : Int)) rfl rfl (by kernel_rfl) (by kernel_rfl) (by kernel_rfl) (fun _ _ _ h => h) (fun w hw => by have hx := hw.2.1; simp [go_sem, hx]) hS ?_
            simp only [List.getElem_toArray, List.getElem_cons_succ, List.getElem_cons_zero, Act.put, List.setIfInBounds_toArray, List.set_cons_zero, List.set_cons_succ]
            refine hd_take 3 (.pointer (some ⟨wb, j, none⟩)) rfl rfl (by kernel_rfl) (by kernel_rfl) (by kernel_rfl) (fun _ _ _ h => h) (fun w hw => by go_simp) hS ?_
            simp only [List.getElem_toArray, List.getElem_cons_succ, List.getElem_cons_zero, Act.put, List.setIfInBounds_toArray, List.set_cons_zero, List.set_cons_succ]
            refine hd_take 4 (.int .i64 (v : Int)) rfl rfl (by kernel_rfl) (by kernel_rfl) (by kernel_rfl) (fun _ _ _ h => h) (fun w hw => by have hx := hw.1; simp [go_sem, hx]) hS ?_
            simp only [List.getElem_toArray, List.getElem_cons_succ, List.getElem_cons_zero, Act.put, List.setIfInBounds_toArray, List.set_cons_zero, List.set_cons_succ]
            refine hd_take 7 (.bool true) rfl rfl (by kernel_rfl) (by kernel_rfl) (by kernel_rfl) (fun _ _ _ h => h) (fun w hw => by first | (simp [go_sem, hv1]; done) | (simp [go_sem]; omega)) hS ?_
            simp only [List.getElem_toArray, List.getElem_cons_succ, List.getElem_cons_zero, Act.put, List.setIfInBounds_toArray, List.set_cons_zero, List.set_cons_succ]
            refine hd_take 8 (.bool true) rfl rfl (by kernel_rfl) (by kernel_rfl) (by kernel_rfl) (fun _ _ _ h => h) (fun w hw => by go_simp) hS ?_
            refine wpAnyH_done (by kernel_rfl) (NoPanic.normal ?_) _
            simp only [List.getElem_toArray, List.getElem_cons_succ, List.getElem_cons_zero, Act.put, List.setIfInBounds_toArray, List.set_cons_zero, List.set_cons_succ]
            go_wp2_with (at_builtin; refine wpList_append_int _ rfl (.tmp 52) (.tmp 54) rfl W0.heap.size A l c' (namesF P m) HL.out rfl (OV.out.below (alloc_bel V _)) _ (some ⟨V.heap.size, 0, none⟩) 1 rfl (src_int V _) (by omega) (by have := (hbelV).size; simp; omega) ?_; intro A7 c7 w7 ho7 hb7 hg7; have O7 := Lib.hid ho7; have D7 := Lib.hid (((hbelV).trans ((alloc_bel V _).mono (hbelV).size)).trans hb7); clear ho7 hb7 hg7)
            go_roundw
            case rel => exact ⟨m + 1, l + 1, c7, A7, by omega, by go_num, rfl, by unfold Hid; rw [HN.out, List.length_append, HL.out]; rfl, by unfold Hid; rw [HN.out]; exact O7.out, D7.out⟩
            case measure => simp [intOf] <;> omega
          | false =>
            rw [hb_] at HP1
            have hv1 : ¬ (v : Int) < d := by have := of_decide_eq_false HP1.symm; omega
            have HN := Lib.hid (namesF_no hb_)
            clear HP1 hv hcw hb_ hz hrg
            go_wp2_with fail
            refine wp_region_noPanic ?_
            refine wp_region_held_drew (S := fun W => W.cell? ⟨wb, j, none⟩ = some (.int .i64 (v : Int)) ∧ W.cell? ⟨gb, 1, none⟩ = some (.int .i64 (d : Int)) ∧ True) (by kernel_rfl) (by rw [← hV]; exact HSV.out _ hbelV) (fun hS => ?_)
            rw [← hV] at hS ⊢
            clear hV
            refine hd_take 0 (.slice (some ⟨wb, 0, none⟩) m m) rfl rfl (by kernel_rfl) (by kernel_rfl) (by kernel_rfl) (fun _ _ _ h => h) (fun w hw => by go_simp) hS ?_
            refine hd_take 1 (.int .i64 (m : Int)) rfl rfl (by kernel_rfl) (by kernel_rfl) (by kernel_rfl) (fun _ _ _ h => h) (fun w hw => by go_simp) hS ?_
            refine hd_take 5 (.pointer (some ⟨gb, 1, none⟩)) rfl rfl (by kernel_rfl) (by kernel_rfl) (by kernel_rfl) (fun _ _ _ h => h) (fun w hw => by go_simp) hS ?_
            simp only [List.getElem_toArray, List.getElem_cons_succ, List.getElem_cons_zero, Act.put, List.setIfInBounds_toArray, List.set_cons_zero, List.set_cons_succ]
            refine hd_take 2 (.int .i64 (j : Int)) rfl rfl (by kernel_rfl) (by kernel_rfl) (by kernel_rfl) (fun _ _ _ h => h) (fun w hw => by simp [go_sem, ej]) hS ?_
            refine hd_take 6 (.int .i64 (d : Int)) rfl rfl (by kernel_rfl) (by kernel_rfl) (by kernel_rfl) (fun _ _ _ h => h) (fun w hw => by have hx := hw.2.1; simp [go_sem, hx]) hS ?_
            simp only [List.getElem_toArray, List.getElem_cons_succ, List.getElem_cons_zero, Act.put, List.setIfInBounds_toArray, List.set_cons_zero, List.set_cons_succ]
            refine hd_take 3 (.pointer (some ⟨wb, j, none⟩)) rfl rfl (by kernel_rfl) (by kernel_rfl) (by kernel_rfl) (fun _ _ _ h => h) (fun w hw => by go_simp) hS ?_
            simp only [List.getElem_toArray, List.getElem_cons_succ, List.getElem_cons_zero, Act.put, List.setIfInBounds_toArray, List.set_cons_zero, List.set_cons_succ]
            refine hd_take 4 (.int .i64 (v : Int)) rfl rfl (by kernel_rfl) (by kernel_rfl) (by kernel_rfl) (fun _ _ _ h => h) (fun w hw => by have hx := hw.1; simp [go_sem, hx]) hS ?_
            simp only [List.getElem_toArray, List.getElem_cons_succ, List.getElem_cons_zero, Act.put, List.setIfInBounds_toArray, List.set_cons_zero, List.set_cons_succ]
            refine hd_take 7 (.bool false) rfl rfl (by kernel_rfl) (by kernel_rfl) (by kernel_rfl) (fun _ _ _ h => h) (fun w hw => by first | (simp [go_sem, hv1]; done) | (simp [go_sem]; omega)) hS ?_
            simp only [List.getElem_toArray, List.getElem_cons_succ, List.getElem_cons_zero, Act.put, List.setIfInBounds_toArray, List.set_cons_zero, List.set_cons_succ]
            refine hd_take 8 (.bool false) rfl rfl (by kernel_rfl) (by kernel_rfl) (by kernel_rfl) (fun _ _ _ h => h) (fun w hw => by go_simp) hS ?_
            refine wpAnyH_done (by kernel_rfl) (NoPanic.normal ?_) _
            simp only [List.getElem_toArray, List.getElem_cons_succ, List.getElem_cons_zero, Act.put, List.setIfInBounds_toArray, List.set_cons_zero, List.set_cons_succ]
            go_wp2_with fail
            go_roundw
            case rel => exact ⟨m + 1, l, c', A, by omega, by go_num, rfl, by unfold Hid; rw [HN.out]; exact HL.out, by unfold Hid; rw [HN.out]; exact OV.out, hbelV⟩
            case measure => simp [intOf] <;> omega
        · have HP1 := HPM.out i j hj (by omega)
          obtain ⟨v2, hv2⟩ : ∃ v, wl.getD i 0 = v := ⟨_, rfl⟩
          rw [hv, hv2] at HP1
          have hle1 : v ≤ d := by rw [← hv]; exact HWB.out j (by omega)
          have hle2 : v2 ≤ d := by rw [← hv2]; exact HWB.out i (by omega)
          have HSV : Hid (∀ W, Below W0.heap.size W0 W → W.cell? ⟨wb, j, none⟩ = some (.int .i64 (v : Int)) ∧ W.cell? ⟨gb, 1, none⟩ = some (.int .i64 (d : Int)) ∧ W.cell? ⟨wb, i, none⟩ = some (.int .i64 (v2 : Int)) ∧ W.rangeAt gb 0 cs) := fun W hW => by
            obtain ⟨a, b, c, e⟩ := HSX.out W hW
            have h1 := a j (by omega)
            have h2 := a i (by omega)
            rw [hv] at h1
            rw [hv2] at h2
            exact ⟨h1, c, h2, e⟩
          obtain ⟨k, hk⟩ : ∃ k, v + v2 = k := ⟨_, rfl⟩
          have ek : IntKind.i64.wrap ((v : Int) + (v2 : Int)) = (k : Int) := by rw [IntKind.wrap_i64]; omega
          have HTK := Lib.hid (HTH.out k (by omega))
          rw [hk] at HP1
          generalize th k = tk at HTK HP1
          have him : ¬ (i : Int) = m := by omega
          have hims : (i : Int) < m := by omega
          cases hb_ : P i with
          | true =>
            rw [hb_] at HP1
            have hv1 : (v : Int) ≤ tk := by have := of_decide_eq_true HP1.symm; omega
            have HN := Lib.hid (namesF_yes hb_)
            clear HP1 hv hv2 hcw hj hb_ hm_ hz hrg hk
            go_wp2_with fail
            refine wp_region_noPanic ?_
            refine wp_region_held_drew (S := fun W => W.cell? ⟨wb, j, none⟩ = some (.int .i64 (v : Int)) ∧ W.cell? ⟨gb, 1, none⟩ = some (.int .i64 (d : Int)) ∧ W.cell? ⟨wb, i, none⟩ = some (.int .i64 (v2 : Int)) ∧ W.rangeAt gb 0 cs) (by kernel_rfl) (by rw [← hV]; exact HSV.out _ hbelV) (fun hS => ?_)
            rw [← hV] at hS ⊢
            clear hV
            refine hd_take 0 (.slice (some ⟨wb, 0, none⟩) m m) rfl rfl (by kernel_rfl) (by kernel_rfl) (by kernel_rfl) (fun _ _ _ h => h) (fun w hw => by go_simp) hS ?_
            refine hd_take 1 (.int .i64 (i : Int)) rfl rfl (by kernel_rfl) (by kernel_rfl) (by kernel_rfl) (fun _ _ _ h => h) (fun w hw => by go_simp) hS ?_
            refine hd_take 6 (.slice (some ⟨wb, 0, none⟩) m m) rfl rfl (by kernel_rfl) (by kernel_rfl) (by kernel_rfl) (fun _ _ _ h => h) (fun w hw => by go_simp) hS ?_
            refine hd_take 7 (.int .i64 (i : Int)) rfl rfl (by kernel_rfl) (by kernel_rfl) (by kernel_rfl) (fun _ _ _ h => h) (fun w hw => by go_simp) hS ?_
            refine hd_take 11 (.slice (some ⟨wb, 0, none⟩) m m) rfl rfl (by kernel_rfl) (by kernel_rfl) (by kernel_rfl) (fun _ _ _ h => h) (fun w hw => by go_simp) hS ?_
            refine hd_take 12 (.int .i64 (i : Int)) rfl rfl (by kernel_rfl) (by kernel_rfl) (by kernel_rfl) (fun _ _ _ h => h) (fun w hw => by go_simp) hS ?_
            simp only [List.getElem_toArray, List.getElem_cons_succ, List.getElem_cons_zero, Act.put, List.setIfInBounds_toArray, List.set_cons_zero, List.set_cons_succ]
            refine hd_take 2 (.int .i64 (j : Int)) rfl rfl (by kernel_rfl) (by kernel_rfl) (by kernel_rfl) (fun _ _ _ h => h) (fun w hw => by simp [go_sem, ej]) hS ?_
            refine hd_take 8 (.int .i64 (j : Int)) rfl rfl (by kernel_rfl) (by kernel_rfl) (by kernel_rfl) (fun _ _ _ h => h) (fun w hw => by simp [go_sem, ej]) hS ?_
            refine hd_take 13 (.pointer (some ⟨wb, i, none⟩)) rfl rfl (by kernel_rfl) (by kernel_rfl) (by kernel_rfl) (fun _ _ _ h => h) (fun w hw => by go_simp) hS ?_
            simp only [List.getElem_toArray, List.getElem_cons_succ, List.getElem_cons_zero, Act.put, List.setIfInBounds_toArray, List.set_cons_zero, List.set_cons_succ]
            refine hd_take 3 (.pointer (some ⟨wb, j, none⟩)) rfl rfl (by kernel_rfl) (by kernel_rfl) (by kernel_rfl) (fun _ _ _ h => h) (fun w hw => by go_simp) hS ?_
            refine hd_take 9 (.pointer (some ⟨wb, j, none⟩)) rfl rfl (by kernel_rfl) (by kernel_rfl) (by kernel_rfl) (fun _ _ _ h => h) (fun w hw => by go_simp) hS ?_
            refine hd_take 14 (.int .i64 (v2 : Int)) rfl rfl (by kernel_rfl) (by kernel_rfl) (by kernel_rfl) (fun _ _ _ h => h) (fun w hw => by have hx := hw.2.2.1; simp [go_sem, hx]) hS ?_
            simp only [List.getElem_toArray, List.getElem_cons_succ, List.getElem_cons_zero, Act.put, List.setIfInBounds_toArray, List.set_cons_zero, List.set_cons_succ]
            refine hd_take 4 (.int .i64 (v : Int)) rfl rfl (by kernel_rfl) (by kernel_rfl) (by kernel_rfl) (fun _ _ _ h => h) (fun w hw => by have hx := hw.1; simp [go_sem, hx]) hS ?_
            refine hd_load 5 gb 0 cs 29 (.tmp 2) rfl rfl rfl (by kernel_rfl) (by kernel_rfl) (by kernel_rfl) (fun _ _ _ h => h) rfl (fun w hw => hw.2.2.2) Tryz.underlying29 rfl (infoS HL20.out) hS ?_
            refine hd_take 10 (.int .i64 (v : Int)) rfl rfl (by kernel_rfl) (by kernel_rfl) (by kernel_rfl) (fun _ _ _ h => h) (fun w hw => by have hx := hw.1; simp [go_sem, hx]) hS ?_
            simp only [List.getElem_toArray, List.getElem_cons_succ, List.getElem_cons_zero, Act.put, List.setIfInBounds_toArray, List.set_cons_zero, List.set_cons_succ]
            refine hd_take 15 (.int .i64 (k : Int)) rfl rfl (by kernel_rfl) (by kernel_rfl) (by kernel_rfl) (fun _ _ _ h => h) (fun w hw => by simp [go_sem, ek]) hS ?_
            simp only [List.getElem_toArray, List.getElem_cons_succ, List.getElem_cons_zero, Act.put, List.setIfInBounds_toArray, List.set_cons_zero, List.set_cons_succ]
            refine hd_calls 16 125 #[.agg cs.toArray, .int .i64 (k : Int)] rfl rfl (by kernel_rfl) (by go_simp) ((HTK.out _ (HD1.out _ hbelV)).mono ?_)
            rintro e w3 ⟨rfl, hb⟩
            have hbel3 := bel_on hbelV hb
            have hS3 := HSV.out _ hbel3
            refine ⟨_, rfl, hS3, ?_⟩
            simp only [List.getElem_toArray, List.getElem_cons_succ, List.getElem_cons_zero, Act.put, List.setIfInBounds_toArray, List.set_cons_zero, List.set_cons_succ]
            refine hd_take 17 (.bool true) rfl rfl (by kernel_rfl) (by kernel_rfl) (by kernel_rfl) (fun _ _ _ h => h) (fun w hw => by first | (simp [go_sem, hv1]; done) | (simp [go_sem]; omega)) hS3 ?_
            simp only [List.getElem_toArray, List.getElem_cons_succ, List.getElem_cons_zero, Act.put, List.setIfInBounds_toArray, List.set_cons_zero, List.set_cons_succ]
            refine hd_take 18 (.bool true) rfl rfl (by kernel_rfl) (by kernel_rfl) (by kernel_rfl) (fun _ _ _ h => h) (fun w hw => by go_simp) hS3 ?_
            refine wpAnyH_done (by kernel_rfl) (NoPanic.normal ?_) _
            simp only [List.getElem_toArray, List.getElem_cons_succ, List.getElem_cons_zero, Act.put, List.setIfInBounds_toArray, List.set_cons_zero, List.set_cons_succ]
            have O3 := Lib.hid (OV.out.below hb)
            go_wp2_with (at_builtin; refine wpList_append_int _ rfl (.tmp 52) (.tmp 54) rfl W0.heap.size A l c' (namesF P i) HL.out rfl (O3.out.below (alloc_bel w3 _)) _ (some ⟨w3.heap.size, 0, none⟩) 1 rfl (src_int w3 _) (by omega) (by have := (hbel3).size; simp; omega) ?_; intro A7 c7 w7 ho7 hb7 hg7; have O7 := Lib.hid ho7; have D7 := Lib.hid (((hbel3).trans ((alloc_bel w3 _).mono (hbel3).size)).trans hb7); clear ho7 hb7 hg7)
            go_roundw
            case rel => exact ⟨i + 1, l + 1, c7, A7, by omega, by go_num, rfl, by unfold Hid; rw [HN.out, List.length_append, HL.out]; rfl, by unfold Hid; rw [HN.out]; exact O7.out, D7.out⟩
            case measure => simp [intOf] <;> omega
          | false =>
            rw [hb_] at HP1
            have hv1 : ¬ (v : Int) ≤ tk := by have := of_decide_eq_false HP1.symm; omega
            have HN := Lib.hid (namesF_no hb_)
            clear HP1 hv hv2 hcw hj hb_ hm_ hz hrg hk
            go_wp2_with fail
            refine wp_region_noPanic ?_
            refine wp_region_held_drew (S := fun W => W.cell? ⟨wb, j, none⟩ = some (.int .i64 (v : Int)) ∧ W.cell? ⟨gb, 1, none⟩ = some (.int .i64 (d : Int)) ∧ W.cell? ⟨wb, i, none⟩ = some (.int .i64 (v2 : Int)) ∧ W.rangeAt gb 0 cs) (by kernel_rfl) (by rw [← hV]; exact HSV.out _ hbelV) (fun hS => ?_)
            rw [← hV] at hS ⊢
            clear hV
            refine hd_take 0 (.slice (some ⟨wb, 0, none⟩) m m) rfl rfl (by kernel_rfl) (by kernel_rfl) (by kernel_rfl) (fun _ _ _ h => h) (fun w hw => by go_simp) hS ?_
            refine hd_take 1 (.int .i64 (i : Int)) rfl rfl (by kernel_rfl) (by kernel_rfl) (by kernel_rfl) (fun _ _ _ h => h) (fun w hw => by go_simp) hS ?_
            refine hd_take 6 (.slice (some ⟨wb, 0, none⟩) m m) rfl rfl (by kernel_rfl) (by kernel_rfl) (by kernel_rfl) (fun _ _ _ h => h) (fun w hw => by go_simp) hS ?_
            refine hd_take 7 (.int .i64 (i : Int)) rfl rfl (by kernel_rfl) (by kernel_rfl) (by kernel_rfl) (fun _ _ _ h => h) (fun w hw => by go_simp) hS ?_
            refine hd_take 11 (.slice (some ⟨wb, 0, none⟩) m m) rfl rfl (by kernel_rfl) (by kernel_rfl) (by kernel_rfl) (fun _ _ _ h => h) (fun w hw => by go_simp) hS ?_
            refine hd_take 12 (.int .i64 (i : Int)) rfl rfl (by kernel_rfl) (by kernel_rfl) (by kernel_rfl) (fun _ _ _ h => h) (fun w hw => by go_simp) hS ?_
            simp only [List.getElem_toArray, List.getElem_cons_succ, List.getElem_cons_zero, Act.put, List.setIfInBounds_toArray, List.set_cons_zero, List.set_cons_succ]
            refine hd_take 2 (.int .i64 (j : Int)) rfl rfl (by kernel_rfl) (by kernel_rfl) (by kernel_rfl) (fun _ _ _ h => h) (fun w hw => by simp [go_sem, ej]) hS ?_
            refine hd_take 8 (.int .i64 (j : Int)) rfl rfl (by kernel_rfl) (by kernel_rfl) (by kernel_rfl) (fun _ _ _ h => h) (fun w hw => by simp [go_sem, ej]) hS ?_
            refine hd_take 13 (.pointer (some ⟨wb, i, none⟩)) rfl rfl (by kernel_rfl) (by kernel_rfl) (by kernel_rfl) (fun _ _ _ h => h) (fun w hw => by go_simp) hS ?_
            simp only [List.getElem_toArray, List.getElem_cons_succ, List.getElem_cons_zero, Act.put, List.setIfInBounds_toArray, List.set_cons_zero, List.set_cons_succ]
            refine hd_take 3 (.pointer (some ⟨wb, j, none⟩)) rfl rfl (by kernel_rfl) (by kernel_rfl) (by kernel_rfl) (fun _ _ _ h => h) (fun w hw => by go_simp) hS ?_
            refine hd_take 9 (.pointer (some ⟨wb, j, none⟩)) rfl rfl (by kernel_rfl) (by kernel_rfl) (by kernel_rfl) (fun _ _ _ h => h) (fun w hw => by go_simp) hS ?_
            refine hd_take 14 (.int .i64 (v2 : Int)) rfl rfl (by kernel_rfl) (by kernel_rfl) (by kernel_rfl) (fun _ _ _ h => h) (fun w hw => by have hx := hw.2.2.1; simp [go_sem, hx]) hS ?_
            simp only [List.getElem_toArray, List.getElem_cons_succ, List.getElem_cons_zero, Act.put, List.setIfInBounds_toArray, List.set_cons_zero, List.set_cons_succ]
            refine hd_take 4 (.int .i64 (v : Int)) rfl rfl (by kernel_rfl) (by kernel_rfl) (by kernel_rfl) (fun _ _ _ h => h) (fun w hw => by have hx := hw.1; simp [go_sem, hx]) hS ?_
            refine hd_load 5 gb 0 cs 29 (.tmp 2) rfl rfl rfl (by kernel_rfl) (by kernel_rfl) (by kernel_rfl) (fun _ _ _ h => h) rfl (fun w hw => hw.2.2.2) Tryz.underlying29 rfl (infoS HL20.out) hS ?_
            refine hd_take 10 (.int .i64 (v : Int)) rfl rfl (by kernel_rfl) (by kernel_rfl) (by kernel_rfl) (fun _ _ _ h => h) (fun w hw => by have hx := hw.1; simp [go_sem, hx]) hS ?_
            simp only [List.getElem_toArray, List.getElem_cons_succ, List.getElem_cons_zero, Act.put, List.setIfInBounds_toArray, List.set_cons_zero, List.set_cons_succ]
            refine hd_take 15 (.int .i64 (k : Int)) rfl rfl (by kernel_rfl) (by kernel_rfl) (by kernel_rfl) (fun _ _ _ h => h) (fun w hw => by simp [go_sem, ek]) hS ?_
            simp only [List.getElem_toArray, List.getElem_cons_succ, List.getElem_cons_zero, Act.put, List.setIfInBounds_toArray, List.set_cons_zero, List.set_cons_succ]
            refine hd_calls 16 125 #[.agg cs.toArray, .int .i64 (k : Int)] rfl rfl (by kernel_rfl) (by go_simp) ((HTK.out _ (HD1.out _ hbelV)).mono ?_)
            rintro e w3 ⟨rfl, hb⟩
            have hbel3 := bel_on hbelV hb
            have hS3 := HSV.out _ hbel3
            refine ⟨_, rfl, hS3, ?_⟩
            simp only [List.getElem_toArray, List.getElem_cons_succ, List.getElem_cons_zero, Act.put, List.setIfInBounds_toArray, List.set_cons_zero, List.set_cons_succ]
            refine hd_take 17 (.bool false) rfl rfl (by kernel_rfl) (by kernel_rfl) (by kernel_rfl) (fun _ _ _ h => h) (fun w hw => by first | (simp [go_sem, hv1]; done) | (simp [go_sem]; omega)) hS3 ?_
            simp only [List.getElem_toArray, List.getElem_cons_succ, List.getElem_cons_zero, Act.put, List.setIfInBounds_toArray, List.set_cons_zero, List.set_cons_succ]
            refine hd_take 18 (.bool false) rfl rfl (by kernel_rfl) (by kernel_rfl) (by kernel_rfl) (fun _ _ _ h => h) (fun w hw => by go_simp) hS3 ?_
            refine wpAnyH_done (by kernel_rfl) (NoPanic.normal ?_) _
            simp only [List.getElem_toArray, List.getElem_cons_succ, List.getElem_cons_zero, Act.put, List.setIfInBounds_toArray, List.set_cons_zero, List.set_cons_succ]
            have O3 := Lib.hid (OV.out.below hb)
            go_wp2_with fail
            go_roundw
            case rel => exact ⟨i + 1, l, c', A, by omega, by go_num, rfl, by unfold Hid; rw [HN.out]; exact HL.out, by unfold Hid; rw [HN.out]; exact O3.out, hbel3⟩
            case measure => simp [intOf] <;> omega
    · obtain rfl : i = m + 1 := by omega
      have hx : ¬ (((m + 1 : Nat) : Int) < (m : Int) + 1) := by omega
      have hx2 : ¬ ((m : Int) + 1 < (m : Int) + 1) := by omega
      clear hcw
      go_wp2_with fail
      go_ret
      rw [HP.out, HL.out]
      exact ⟨⟨A, c', rfl, HO.out.le_ (HW01.out)⟩, HD1.out _ hbel1⟩
end Go.Proofs.YtenpkmgbaajeeaaGreat

/- Words, weights and names asked of a code of steps: the reference's; lists of ints compared. -/
namespace Go.Proofs.YtenpkmgbaajeeaaGreat
open Go.RowKit
set_option linter.unusedVariables false
set_option linter.unusedSimpArgs false

set_option maxHeartbeats 4000000 in
set_option maxRecDepth 1000000 in
theorem refStepWord_any (s : StV) (x : Int) (w : World) (h : StOK w s) (hx1 : -9223372036854775808 ≤ x) (hx2 : x ≤ 9223372036854775807) :
    Calls Tryz.prog 20 #[.agg s.cs.toArray, .int .i64 x] w fun e w' => WordErr (s.wordR x) e w' ∧ Below w.heap.size w w' := by
  have hk := h.k16
  obtain ⟨W0, hW0⟩ : ∃ W : World, W = w.alloc (.cells s.cs.toArray 29) := ⟨_, rfl⟩
  have b0 : Hid (Below w.heap.size w W0) := by unfold Hid; rw [hW0]; exact alloc_below _ _
  have x0 : Hid (Blk W0 w.heap.size 29 s.cs.toArray) := by unfold Hid; rw [hW0]; exact Blk.new w _ _
  have HW0 := Lib.hid hW0
  have HIN := Lib.hid (StV.info (s := s) hk)
  have HX : Hid (∀ W, Below W0.heap.size W0 W → Blk W w.heap.size 29 s.cs.toArray) := fun W hW => x0.out.below' hW
  have HC0 : Hid (∀ W, Below W0.heap.size W0 W → W.cell? ⟨w.heap.size, 0, none⟩ = some (.int .i64 s.u) ∧ W.cell? ⟨w.heap.size, 1, none⟩ = some (.int .i64 s.b)) := fun W hW => ⟨(StV.cells hk (x0.out.below' hW)).1, (StV.cells hk (x0.out.below' hW)).2.1⟩
  have HVS : Hid (∀ W, Below w.heap.size w W → Calls Tryz.prog 43 #[.agg s.cs.toArray] W fun e w' => e = .returned (.bool s.ok) ∧ Below W.heap.size W w') := fun W hW => refValidSteps_any s W (h.below hW)
  cases hok : s.ok with
  | false =>
    rw [hok] at HVS
    have HR : Hid (s.wordR x = ([], 70)) := by unfold Hid StV.wordR; rw [if_pos hok]
    generalize s.wordR x = r at HR ⊢
    generalize s.cs.toArray = cs at *
    clear h hok hk hW0
    go_enter Tryz.func20, Tryz.ntmps20
    go_wp2_with (first
      | (rw [← HW0.out])
      | (refine wpList_load_row rfl 29 (.tmp 2) rfl (w.heap.size) rfl 29 cs (0, 0) _ x0.out Tryz.underlying29 rfl HIN.out ?_)
      | (go_at_call 43; (with_reducible refine (HVS.out _ b0.out).mono ?_); rintro e w1 ⟨rfl, hb⟩; have D1 := Lib.hid (bel_on b0.out hb); have x1 := Lib.hid (HX.out _ hb); obtain ⟨c0, c1⟩ := HC0.out _ hb; clear hb))
    go_ret2
    exact ⟨wordErr_nil _ _ HR.out, D1.out⟩
  | true =>
    rw [hok] at HVS
    by_cases hin : 0 ≤ x ∧ x < s.u
    · obtain ⟨hx0, hxu⟩ := hin
      obtain ⟨n, rfl⟩ : ∃ n : Nat, x = (n : Int) := ⟨x.toNat, by omega⟩
      have HWD : Hid (∀ W, Below w.heap.size w W → Calls Tryz.prog 68 #[.agg s.cs.toArray, .int .i64 (n : Int)] W fun e w' => (∃ g, e = .returned (.slice (some ⟨g, 0, none⟩) s.n s.n) ∧ Blk w' g 5 (cellsB (s.word n)).toArray) ∧ Below W.heap.size W w') := fun W hW => StepsWord_any s n W (h.below hW) hok hxu
      have HR : Hid (s.wordR (n : Int) = (s.word n, 0)) := by
        unfold Hid StV.wordR
        rw [if_neg (by rw [hok]; simp), if_neg (by omega), Int.toNat_natCast]
      have HWL : Hid ((s.word n).length = s.n) := s.word_len n
      have HNL : Hid (s.n ≤ 1000000) := by have := (StV.n_le hok).2.1; unfold Hid; omega
      have hnx : ¬ ((n : Int) < 0) := by omega
      have hnu : ¬ (s.u ≤ (n : Int)) := by omega
      have HF : Hid (∀ r e w', r = (s.word n, (0 : Int)) → (∃ g, e = .returned (.tuple #[.slice (some ⟨g, 0, none⟩) s.n s.n, .int .i64 0]) ∧ Blk w' g 5 (cellsB (s.word n)).toArray) → WordErr r e w') := fun r e w' hr ⟨g, he, hB⟩ => by
        subst hr
        have hb := blk_br hB (by rw [HWL.out]; exact HNL.out)
        exact ⟨some ⟨g, 0, none⟩, (s.word n).length, by rw [he, HWL.out], hb⟩
      generalize s.wordR (n : Int) = r at HR ⊢
      generalize s.n = nn at HWD HF
      generalize s.u = u at *
      generalize s.cs.toArray = cs at *
      clear h hok hk hW0 HWL HNL
      go_enter Tryz.func20, Tryz.ntmps20
      go_wp2_with (first
        | (rw [← HW0.out])
        | (refine wpList_load_row rfl 29 (.tmp 2) rfl (w.heap.size) rfl 29 cs (0, 0) _ x0.out Tryz.underlying29 rfl HIN.out ?_)
        | (refine wpList_load_row rfl 29 (.tmp 2) rfl (w.heap.size) rfl 29 cs (0, 0) _ x1.out Tryz.underlying29 rfl HIN.out ?_)
        | (go_at_call 43; (with_reducible refine (HVS.out _ b0.out).mono ?_); rintro e w1 ⟨rfl, hb⟩; have D1 := Lib.hid (bel_on b0.out hb); have x1 := Lib.hid (HX.out _ hb); obtain ⟨c0, c1⟩ := HC0.out _ hb; clear hb)
        | (go_at_call 68; (with_reducible refine (HWD.out _ D1.out).mono ?_); rintro e w2 ⟨⟨g, rfl, hB⟩, hb⟩; have D2 := Lib.hid (bel_on D1.out hb); have B2 := Lib.hid hB; clear hb hB))
      all_goals first | omega | (go_ret2; exact ⟨HF.out _ _ _ HR.out ⟨_, rfl, B2.out⟩, D2.out⟩)
    · have HR : Hid (s.wordR x = ([], 2)) := by
        unfold Hid StV.wordR
        rw [if_neg (by rw [hok]; simp), if_pos (by omega)]
      generalize s.wordR x = r at HR ⊢
      generalize s.u = u at *
      generalize s.cs.toArray = cs at *
      clear h hok hk hW0
      go_enter Tryz.func20, Tryz.ntmps20
      go_wp2_with (first
        | (rw [← HW0.out])
        | (refine wpList_load_row rfl 29 (.tmp 2) rfl (w.heap.size) rfl 29 cs (0, 0) _ x0.out Tryz.underlying29 rfl HIN.out ?_)
        | (go_at_call 43; (with_reducible refine (HVS.out _ b0.out).mono ?_); rintro e w1 ⟨rfl, hb⟩; have D1 := Lib.hid (bel_on b0.out hb); have x1 := Lib.hid (HX.out _ hb); obtain ⟨c0, c1⟩ := HC0.out _ hb; clear hb))
      all_goals first | omega | (go_ret2; exact ⟨wordErr_nil _ _ HR.out, D1.out⟩)

/-- The weights as a block, or nothing and an error. -/
def WtsBlk (s : StV) (y : List UInt8) (e : Ending) (w' : World) : Prop :=
  if s.ok = true ∧ copyB y s.n = true then ∃ g, e = .returned (.tuple #[.slice (some ⟨g, 0, none⟩) (s.u.toNat - 1) (s.u.toNat - 1), .int .i64 0]) ∧ Blk w' g 3 (cellsL (s.wts y)).toArray else e = .returned (.tuple #[.slice none 0 0, .int .i64 (s.wtsR y).2])
theorem wts_ints {s : StV} {y : List UInt8} {e : Ending} {w' : World} (h : WtsBlk s y e w') : IntsErr (s.wtsR y) e w' := by
  unfold WtsBlk at h
  split at h
  · rename_i hc
    obtain ⟨g, rfl, hB⟩ := h
    have hr : s.wtsR y = (natI (s.wts y), 0) := by unfold StV.wtsR; rw [if_neg (by rw [hc.1]; simp), if_neg (by rw [hc.2]; simp)]
    rw [hr]
    have hl : (natI (s.wts y)).length = s.u.toNat - 1 := by simp [natI, s.wts_len]
    have := blk_ir hB (by rw [s.wts_len]; have := (StV.parts hc.1).1; omega) (fun x hx => by have := StV.wts_small hc.1 y x hx; omega)
    rw [s.wts_len] at this
    exact ⟨_, _, by rw [hl], this⟩
  · rename_i hc
    subst h
    have hr : s.wtsR y = ([], (s.wtsR y).2) := by
      unfold StV.wtsR
      by_cases h1 : s.ok = false
      · rw [if_pos h1]
      · rw [if_neg h1]
        by_cases h2 : copyB y s.n = false
        · rw [if_pos h2]
        · exact absurd ⟨by simpa using h1, by simpa using h2⟩ hc
    exact intsErr_nil _ _ hr
theorem wtsBlk_nil {s : StV} {y : List UInt8} {w' : World} {x : Int} (hc : ¬ (s.ok = true ∧ copyB y s.n = true)) (hr : s.wtsR y = ([], x)) : WtsBlk s y (.returned (.tuple #[.slice none 0 0, .int .i64 x])) w' := by
  unfold WtsBlk
  rw [if_neg hc, hr]

set_option maxHeartbeats 4000000 in
set_option maxRecDepth 1000000 in
theorem refWeights_blk (s : StV) (Y : Option Addr) (c : Nat) (y : List UInt8) (w : World) (h : StOK w s) {n0 : Nat} (hy : y.length = n0) (hY : BR w Y c y) :
    Calls Tryz.prog 24 #[.agg s.cs.toArray, .slice Y n0 c] w fun e w' => WtsBlk s y e w' ∧ Below w.heap.size w w' := by
  have hk := h.k16
  obtain ⟨W0, hW0⟩ : ∃ W : World, W = w.alloc (.cells s.cs.toArray 29) := ⟨_, rfl⟩
  have b0 : Hid (Below w.heap.size w W0) := by unfold Hid; rw [hW0]; exact alloc_below _ _
  have x0 : Hid (Blk W0 w.heap.size 29 s.cs.toArray) := by unfold Hid; rw [hW0]; exact Blk.new w _ _
  have HW0 := Lib.hid hW0
  have HIN := Lib.hid (StV.info (s := s) hk)
  have HX : Hid (∀ W, Below W0.heap.size W0 W → Blk W w.heap.size 29 s.cs.toArray) := fun W hW => x0.out.below' hW
  have HC0 : Hid (∀ W, Below W0.heap.size W0 W → W.cell? ⟨w.heap.size, 0, none⟩ = some (.int .i64 s.u) ∧ W.cell? ⟨w.heap.size, 1, none⟩ = some (.int .i64 s.b)) := fun W hW => ⟨(StV.cells hk (x0.out.below' hW)).1, (StV.cells hk (x0.out.below' hW)).2.1⟩
  have HVS : Hid (∀ W, Below w.heap.size w W → Calls Tryz.prog 43 #[.agg s.cs.toArray] W fun e w' => e = .returned (.bool s.ok) ∧ Below W.heap.size W w') := fun W hW => refValidSteps_any s W (h.below hW)
  cases hok : s.ok with
  | false =>
    rw [hok] at HVS
    have HF : Hid (∀ w', WtsBlk s y (.returned (.tuple #[.slice none 0 0, .int .i64 70])) w') := fun w' => wtsBlk_nil (by rw [hok]; simp) (by unfold StV.wtsR; rw [if_pos hok])
    generalize WtsBlk s y = WB at HF ⊢
    generalize s.cs.toArray = cs at *
    clear h hok hk hW0 hy hY
    go_enter Tryz.func24, Tryz.ntmps24
    go_wp2_with (first
      | (rw [← HW0.out])
      | (refine wpList_load_row rfl 29 (.tmp 2) rfl (w.heap.size) rfl 29 cs (0, 0) _ x0.out Tryz.underlying29 rfl HIN.out ?_)
      | (go_at_call 43; (with_reducible refine (HVS.out _ b0.out).mono ?_); rintro e w1 ⟨rfl, hb⟩; have D1 := Lib.hid (bel_on b0.out hb); have x1 := Lib.hid (HX.out _ hb); obtain ⟨c0, c1⟩ := HC0.out _ hb; clear hb))
    go_ret2
    exact ⟨HF.out _, D1.out⟩
  | true =>
    rw [hok] at HVS
    obtain ⟨hn1, hnl, hnu⟩ := StV.n_le hok
    have hub := (StV.parts hok).1
    have HCP : Hid (∀ W, Below w.heap.size w W → Calls Tryz.prog 44 #[.slice Y n0 c, .int .i64 (s.n : Int)] W fun e w' => e = .returned (.bool (copyB y s.n)) ∧ W = w') := fun W hW => refIsCopy_any Y c y s.n W hy (hY.below hW) (by omega)
    obtain ⟨v, hv⟩ : ∃ v, s.u - 1 = v := ⟨_, rfl⟩
    have ev : IntKind.i64.wrap (s.u - 1) = v := by rw [IntKind.wrap_i64]; omega
    rw [hv] at hnu
    have evb : IntKind.i64.wrap (v * s.b) = (s.n : Int) := by rw [← hnu, IntKind.wrap_i64]; omega
    have ev2 : IntKind.i64.wrap v = v := by rw [IntKind.wrap_i64]; omega
    have evb' : v * s.b = (s.n : Int) := hnu.symm
    have evn : IntKind.i64.wrap (s.n : Int) = (s.n : Int) := by rw [IntKind.wrap_i64]; omega
    clear hv
    cases hc : copyB y s.n with
    | false =>
      have HF : Hid (∀ w', WtsBlk s y (.returned (.tuple #[.slice none 0 0, .int .i64 71])) w') := fun w' => wtsBlk_nil (by rw [hc]; simp) (by unfold StV.wtsR; rw [if_neg (by rw [hok]; simp), if_pos hc])
      rw [hc] at HCP
      generalize WtsBlk s y = WB at HF ⊢
      generalize s.n = n at *
      generalize s.u = u at *
      generalize s.b = b at *
      generalize s.cs.toArray = cs at *
      clear h hok hk hW0 hy hY hc hnl hn1 hub hnu
      go_enter Tryz.func24, Tryz.ntmps24
      go_wp2_with (first
        | (rw [← HW0.out])
        | (refine wpList_load_row rfl 29 (.tmp 2) rfl (w.heap.size) rfl 29 cs (0, 0) _ x0.out Tryz.underlying29 rfl HIN.out ?_)
        | (go_at_call 43; (with_reducible refine (HVS.out _ b0.out).mono ?_); rintro e w1 ⟨rfl, hb⟩; have D1 := Lib.hid (bel_on b0.out hb); have x1 := Lib.hid (HX.out _ hb); obtain ⟨c0, c1⟩ := HC0.out _ hb; clear hb)
        | (go_at_call 44; (with_reducible refine (HCP.out _ D1.out).mono ?_); rintro e w2 ⟨rfl, rfl⟩))
      go_ret2
      exact ⟨HF.out _, D1.out⟩
    | true =>
      have hyn := cp_nat hc
      obtain rfl : n0 = s.n := by omega
      have HM : Hid (∀ W, Below w.heap.size w W → Calls Tryz.prog 73 #[.agg s.cs.toArray, .slice Y s.n c] W fun e w' => (∃ g, e = .returned (.slice (some ⟨g, 0, none⟩) (s.u.toNat - 1) (s.u.toNat - 1)) ∧ Blk w' g 3 (cellsL (s.wts y)).toArray) ∧ Below W.heap.size W w') := fun W hW => WeightsOf_any s Y c y W (h.below hW) hok hyn rfl (hY.below hW)
      have HF : Hid (∀ e w', (∃ g, e = .returned (.tuple #[.slice (some ⟨g, 0, none⟩) (s.u.toNat - 1) (s.u.toNat - 1), .int .i64 0]) ∧ Blk w' g 3 (cellsL (s.wts y)).toArray) → WtsBlk s y e w') := fun e w' he => by
        unfold WtsBlk
        rw [if_pos ⟨hok, hc⟩]
        exact he
      rw [hc] at HCP
      generalize WtsBlk s y = WB at HF ⊢
      generalize s.wts y = wl at HM HF
      obtain ⟨m, hm⟩ : ∃ m, s.u.toNat - 1 = m := ⟨_, rfl⟩
      rw [hm] at HM HF
      generalize s.n = n at *
      generalize s.u = u at *
      generalize s.b = b at *
      generalize s.cs.toArray = cs at *
      clear h hok hk hW0 hy hY hc hnl hn1 hub hnu hyn hm
      go_enter Tryz.func24, Tryz.ntmps24
      go_wp2_with (first
        | (rw [← HW0.out])
        | (refine wpList_load_row rfl 29 (.tmp 2) rfl (w.heap.size) rfl 29 cs (0, 0) _ x0.out Tryz.underlying29 rfl HIN.out ?_)
        | (refine wpList_load_row rfl 29 (.tmp 2) rfl (w.heap.size) rfl 29 cs (0, 0) _ x1.out Tryz.underlying29 rfl HIN.out ?_)
        | (go_at_call 43; (with_reducible refine (HVS.out _ b0.out).mono ?_); rintro e w1 ⟨rfl, hb⟩; have D1 := Lib.hid (bel_on b0.out hb); have x1 := Lib.hid (HX.out _ hb); obtain ⟨c0, c1⟩ := HC0.out _ hb; clear hb)
        | (go_at_call 44; (with_reducible refine (HCP.out _ D1.out).mono ?_); rintro e w2 ⟨rfl, rfl⟩)
        | (go_at_call 73; (with_reducible refine (HM.out _ D1.out).mono ?_); rintro e w4 ⟨⟨g, rfl, hI⟩, hb⟩; have D4 := Lib.hid (bel_on D1.out hb); have I4 := Lib.hid hI; clear hb hI))
      go_ret2
      exact ⟨HF.out _ _ ⟨_, rfl, I4.out⟩, D4.out⟩
theorem refWeights_any (s : StV) (Y : Option Addr) (c : Nat) (y : List UInt8) (w : World) (h : StOK w s) {n0 : Nat} (hy : y.length = n0) (hY : BR w Y c y) :
    Calls Tryz.prog 24 #[.agg s.cs.toArray, .slice Y n0 c] w fun e w' => IntsErr (s.wtsR y) e w' ∧ Below w.heap.size w w' :=
  (refWeights_blk s Y c y w h hy hY).mono fun e w' ⟨h1, h2⟩ => ⟨wts_ints h1, h2⟩

set_option maxHeartbeats 4000000 in
set_option maxRecDepth 1000000 in
theorem refTraceSteps_own (s : StV) (Y : Option Addr) (c : Nat) (y : List UInt8) (w : World) (h : StOK w s) {n0 : Nat} (hy : y.length = n0) (hY : BR w Y c y) :
    Calls Tryz.prog 27 #[.agg s.cs.toArray, .slice Y n0 c] w fun e w' => IntsOwn w.heap.size (s.nmsR y) e w' ∧ Below w.heap.size w w' := by
  have hk := h.k16
  obtain ⟨W0, hW0⟩ : ∃ W : World, W = w.alloc (.cells s.cs.toArray 29) := ⟨_, rfl⟩
  have b0 : Hid (Below w.heap.size w W0) := by unfold Hid; rw [hW0]; exact alloc_below _ _
  have x0 : Hid (Blk W0 w.heap.size 29 s.cs.toArray) := by unfold Hid; rw [hW0]; exact Blk.new w _ _
  have HW0 := Lib.hid hW0
  have HIN := Lib.hid (StV.info (s := s) hk)
  have HX : Hid (∀ W, Below W0.heap.size W0 W → Blk W w.heap.size 29 s.cs.toArray) := fun W hW => x0.out.below' hW
  have HC0 : Hid (∀ W, Below W0.heap.size W0 W → W.cell? ⟨w.heap.size, 0, none⟩ = some (.int .i64 s.u) ∧ W.cell? ⟨w.heap.size, 1, none⟩ = some (.int .i64 s.b)) := fun W hW => ⟨(StV.cells hk (x0.out.below' hW)).1, (StV.cells hk (x0.out.below' hW)).2.1⟩
  have HVS : Hid (∀ W, Below w.heap.size w W → Calls Tryz.prog 43 #[.agg s.cs.toArray] W fun e w' => e = .returned (.bool s.ok) ∧ Below W.heap.size W w') := fun W hW => refValidSteps_any s W (h.below hW)
  clear HC0 HVS
  have HWT : Hid (∀ W, Below w.heap.size w W → Calls Tryz.prog 24 #[.agg s.cs.toArray, .slice Y n0 c] W fun e w' => WtsBlk s y e w' ∧ Below W.heap.size W w') := fun W hW => refWeights_blk s Y c y W (h.below hW) hy (hY.below hW)
  by_cases hc : s.ok = true ∧ copyB y s.n = true
  · have hok := hc.1
    have HWG : Hid (∀ e w', WtsBlk s y e w' → ∃ g, e = .returned (.tuple #[.slice (some ⟨g, 0, none⟩) (s.u.toNat - 1) (s.u.toNat - 1), .int .i64 0]) ∧ Blk w' g 3 (cellsL (s.wts y)).toArray) := fun e w' h => by
      unfold WtsBlk at h
      rwa [if_pos hc] at h
    have HNM : Hid (∀ g W, Below w.heap.size w W → Blk W g 3 (cellsL (s.wts y)).toArray → Calls Tryz.prog 76 #[.agg s.cs.toArray, .slice (some ⟨g, 0, none⟩) (s.u.toNat - 1) (s.u.toNat - 1)] W fun e w' => (∃ A c', e = .returned (.slice A (s.nms y).length c') ∧ OI W.heap.size w' A c' (s.nms y)) ∧ Below W.heap.size W w') := fun g W hW hB => NamedOf_any s g (s.wts y) W (h.below hW) hok hB (s.wts_len y) (StV.wts_le hok y)
    have HF : Hid (∀ e w', (∃ A c', e = .returned (.tuple #[.slice A (s.nms y).length c', .int .i64 0]) ∧ OI w.heap.size w' A c' (s.nms y)) → IntsOwn w.heap.size (s.nmsR y) e w') := fun e w' ⟨A, c', he, hB⟩ => by
      have : s.nmsR y = (s.nms y, 0) := by unfold StV.nmsR; rw [if_neg (by rw [hok]; simp), if_neg (by rw [hc.2]; simp)]
      rw [this]
      exact ⟨A, c', he, hB⟩
    generalize WtsBlk s y = WB at HWT HWG
    generalize IntsOwn w.heap.size (s.nmsR y) = IE at HF ⊢
    generalize s.nms y = vl at HNM HF
    generalize s.wts y = wl at *
    obtain ⟨m, hm⟩ : ∃ m, s.u.toNat - 1 = m := ⟨_, rfl⟩
    rw [hm] at HNM HWG
    generalize s.cs.toArray = cs at *
    clear h hok hk hW0 hy hY hc hm
    go_enter Tryz.func27, Tryz.ntmps27
    go_wp2_with (first
      | (rw [← HW0.out])
      | (refine wpList_load_row rfl 29 (.tmp 2) rfl (w.heap.size) rfl 29 cs (0, 0) _ x0.out Tryz.underlying29 rfl HIN.out ?_)
      | (refine wpList_load_row rfl 29 (.tmp 2) rfl (w.heap.size) rfl 29 cs (0, 0) _ x1.out Tryz.underlying29 rfl HIN.out ?_)
      | (go_at_call 24; (with_reducible refine (HWT.out _ b0.out).mono ?_); rintro e w1 ⟨hB, hb⟩; obtain ⟨g, rfl, hB1⟩ := HWG.out _ _ hB; have D1 := Lib.hid (bel_on b0.out hb); have x1 := Lib.hid (HX.out _ hb); have B1 := Lib.hid hB1; clear hb hB hB1)
      | (go_at_call 76; (with_reducible refine (HNM.out _ _ D1.out B1.out).mono ?_); rintro e w2 ⟨⟨A, c', rfl, hI⟩, hb⟩; have D2 := Lib.hid (bel_on D1.out hb); have I2 := Lib.hid (hI.le_ D1.out.size); clear hb hI))
    go_ret2
    exact ⟨HF.out _ _ ⟨A, c', rfl, I2.out⟩, D2.out⟩
  · obtain ⟨x, hx0, hr, hr2⟩ : ∃ x : Int, (x = 70 ∨ x = 71) ∧ (s.wtsR y).2 = x ∧ s.nmsR y = ([], x) := by
      unfold StV.wtsR StV.nmsR
      by_cases h1 : s.ok = false
      · exact ⟨70, .inl rfl, by rw [if_pos h1], by rw [if_pos h1]⟩
      · by_cases h2 : copyB y s.n = false
        · exact ⟨71, .inr rfl, by rw [if_neg h1, if_pos h2], by rw [if_neg h1, if_pos h2]⟩
        · exact absurd ⟨by simpa using h1, by simpa using h2⟩ hc
    have HWG : Hid (∀ e w', WtsBlk s y e w' → e = .returned (.tuple #[.slice none 0 0, .int .i64 x])) := fun e w' h => by
      unfold WtsBlk at h
      rwa [if_neg hc, hr] at h
    have HF : Hid (∀ w', IntsOwn w.heap.size (s.nmsR y) (.returned (.tuple #[.slice none 0 0, .int .i64 x])) w') := fun w' => intsOwn_nil _ _ _ hr2
    have hxn : ¬ x = 0 := by rcases hx0 with rfl | rfl <;> decide
    generalize WtsBlk s y = WB at HWT HWG
    generalize IntsOwn w.heap.size (s.nmsR y) = IE at HF ⊢
    generalize s.cs.toArray = cs at *
    clear h hk hW0 hy hY hc hx0 hr hr2
    go_enter Tryz.func27, Tryz.ntmps27
    go_wp2_with (first
      | (rw [← HW0.out])
      | (refine wpList_load_row rfl 29 (.tmp 2) rfl (w.heap.size) rfl 29 cs (0, 0) _ x0.out Tryz.underlying29 rfl HIN.out ?_)
      | (go_at_call 24; (with_reducible refine (HWT.out _ b0.out).mono ?_); rintro e w1 ⟨hB, hb⟩; obtain rfl := HWG.out _ _ hB; have D1 := Lib.hid (bel_on b0.out hb); clear hb hB))
    go_ret2
    exact ⟨HF.out _, D1.out⟩
theorem refTraceSteps_any (s : StV) (Y : Option Addr) (c : Nat) (y : List UInt8) (w : World) (h : StOK w s) {n0 : Nat} (hy : y.length = n0) (hY : BR w Y c y) :
    Calls Tryz.prog 27 #[.agg s.cs.toArray, .slice Y n0 c] w fun e w' => IntsErr (s.nmsR y) e w' ∧ Below w.heap.size w w' :=
  (refTraceSteps_own s Y c y w h hy hY).mono fun e w' ⟨⟨A, c', he, ho⟩, h2⟩ => by
    obtain ⟨s1, s2⟩ := s.nmsR_small y
    exact ⟨⟨A, c', he, ho.ir (by omega) (fun x hx => by have := s2 x hx; omega)⟩, h2⟩
end Go.Proofs.YtenpkmgbaajeeaaGreat
