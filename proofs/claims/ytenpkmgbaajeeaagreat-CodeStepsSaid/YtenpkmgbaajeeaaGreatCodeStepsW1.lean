/-
  Lemmas and contracts, joined.
-/
import Derived.Test.YtenpkmgbaajeeaaGreatCp2
set_option linter.unusedSimpArgs false
set_option linter.unusedVariables false
set_option linter.unnecessarySimpa false
/- Words, weights and names of steps: the law's walk. -/
namespace Go.Proofs.YtenpkmgbaajeeaaGreat
open Go.RowKit
set_option linter.unusedVariables false
set_option linter.unusedSimpArgs false

theorem it_ext {a b : List Int} (hl : a.length = b.length) (h : ∀ i, i < a.length → it a i = it b i) : a = b := by
  refine List.ext_getElem hl fun i h1 h2 => ?_
  have := h i h1
  rwa [it_in h1, it_in h2] at this
def sameI (a b : List Int) : Bool := decide (a = b)
set_option maxHeartbeats 4000000 in
set_option maxRecDepth 1000000 in
theorem SameInts_any (A : Option Addr) (c : Nat) (a : List Int) (B : Option Addr) (d : Nat) (b : List Int) (w : World) {n m : Nat} (hn : a.length = n) (hm : b.length = m) (ha : IR w A c a) (hb : IR w B d b) :
    Calls Tryz.prog 25 #[.slice A n c, .slice B m d] w fun e w' => e = .returned (.bool (sameI a b)) ∧ Below w.heap.size w w' := by
  have mixed : Tryz.prog.follows Departure.mixedOrders = true := by kernel_rfl
  have HAW : Hid (∀ W, Below w.heap.size w W → IR W A c a ∧ IR W B d b) := fun W hW => ⟨ha.below hW, hb.below hW⟩
  have hna : (n : Int) ≤ 140737488351232 := by have := ha.len; omega
  have hnb : (m : Int) ≤ 140737488351232 := by have := hb.len; omega
  have HN := Lib.hid hn
  have HM := Lib.hid hm
  by_cases e : n = m
  · subst e
    have HS : Hid ((∀ i, i < n → it a i = it b i) → sameI a b = true) := fun h => decide_eq_true (it_ext (by have := HN.out; have := HM.out; omega) (by rw [HN.out]; exact h))
    have HD : Hid (∀ i, it a i ≠ it b i → sameI a b = false) := fun i h => decide_eq_false (fun e => h (by rw [e]))
    have HIA : Hid (∀ i, i < n → ∀ W, Below w.heap.size w W → (∃ p o, A = some ⟨p, o, none⟩ ∧ W.cell? ⟨p, o + i, none⟩ = some (.int .i64 (it a i))) ∧ ∃ p o, B = some ⟨p, o, none⟩ ∧ W.cell? ⟨p, o + i, none⟩ = some (.int .i64 (it b i))) := fun i hi W hW => by
      obtain ⟨h1, h2⟩ := HAW.out W hW
      obtain ⟨p, o, e, _, hc⟩ := h1.at_ (i := i) (by have := HN.out; omega)
      obtain ⟨p2, o2, e2, _, hc2⟩ := h2.at_ (i := i) (by have := HM.out; omega)
      exact ⟨⟨p, o, e, hc⟩, ⟨p2, o2, e2, hc2⟩⟩
    generalize sameI a b = r at HS HD ⊢
    clear hn hm ha hb
    go_enter Tryz.func25, Tryz.ntmps25
    go_wp2_with fail
    go_loopw [5] (fun vi wr => ∃ i : Nat, i ≤ n ∧ vi = .int .i64 (i : Int) ∧ Hid (∀ j, j < i → it a j = it b j) ∧ Below w.heap.size w wr) (fun vi _ => n - (intOf vi).toNat)
    case atStart => exact ⟨0, by omega, rfl, fun j hj => by omega, Below.refl _ _⟩
    case round =>
      obtain ⟨i, hi, rfl, HE, hbel⟩ := hrel
      by_cases hlt : i < n
      · have hii : (i : Int) < n := by omega
        have hi0 : (0 : Int) ≤ i := by omega
        obtain ⟨⟨p, o, rfl, hc⟩, p2, o2, rfl, hc2⟩ := HIA.out i hlt wr hbel
        have hbd := hbel.drew
        have HNE := Lib.hid (HD.out i)
        have HEQ : Hid (it a i = it b i → ∀ j, j < i + 1 → it a j = it b j) := fun h j hj => by
          rcases Nat.lt_or_ge j i with h1 | h1
          · exact HE.out j h1
          · obtain rfl : j = i := by omega
            exact h
        generalize it a i = u at *
        generalize it b i = v at *
        have hcd : wr.drew.cell? ⟨p, o + i, none⟩ = some (.int .i64 u) ∧ wr.drew.cell? ⟨p2, o2 + i, none⟩ = some (.int .i64 v) := ⟨hc, hc2⟩
        by_cases huv : u = v
        · have HE2 := Lib.hid (HEQ.out huv)
          clear HIA HNE HEQ
          go_wp2_with fail
          refine wp_region_noPanic ?_
          refine wp_region_held_drew (S := fun W => W.cell? ⟨p, o + i, none⟩ = some (.int .i64 u) ∧ W.cell? ⟨p2, o2 + i, none⟩ = some (.int .i64 v)) (by kernel_rfl) hcd (fun hS => ?_)
          refine hd_take 0 (.slice (some ⟨p, o, none⟩) n c) rfl rfl (by kernel_rfl) (by kernel_rfl) (by kernel_rfl) (fun _ _ _ h => h) (fun w hw => by go_simp) hS ?_
          refine hd_take 1 (.int .i64 (i : Int)) rfl rfl (by kernel_rfl) (by kernel_rfl) (by kernel_rfl) (fun _ _ _ h => h) (fun w hw => by go_simp) hS ?_
          refine hd_take 4 (.slice (some ⟨p2, o2, none⟩) n d) rfl rfl (by kernel_rfl) (by kernel_rfl) (by kernel_rfl) (fun _ _ _ h => h) (fun w hw => by go_simp) hS ?_
          refine hd_take 5 (.int .i64 (i : Int)) rfl rfl (by kernel_rfl) (by kernel_rfl) (by kernel_rfl) (fun _ _ _ h => h) (fun w hw => by go_simp) hS ?_
          simp only [List.getElem_toArray, List.getElem_cons_succ, List.getElem_cons_zero, Act.put, List.setIfInBounds_toArray, List.set_cons_zero, List.set_cons_succ]
          refine hd_take 2 (.pointer (some ⟨p, o + i, none⟩)) rfl rfl (by kernel_rfl) (by kernel_rfl) (by kernel_rfl) (fun _ _ _ h => h) (fun w hw => by go_simp) hS ?_
          refine hd_take 6 (.pointer (some ⟨p2, o2 + i, none⟩)) rfl rfl (by kernel_rfl) (by kernel_rfl) (by kernel_rfl) (fun _ _ _ h => h) (fun w hw => by go_simp) hS ?_
          simp only [List.getElem_toArray, List.getElem_cons_succ, List.getElem_cons_zero, Act.put, List.setIfInBounds_toArray, List.set_cons_zero, List.set_cons_succ]
          refine hd_take 3 (.int .i64 u) rfl rfl (by kernel_rfl) (by kernel_rfl) (by kernel_rfl) (fun _ _ _ h => h) (fun w hw => by have hx := hw.1; simp [go_sem, hx]) hS ?_
          refine hd_take 7 (.int .i64 v) rfl rfl (by kernel_rfl) (by kernel_rfl) (by kernel_rfl) (fun _ _ _ h => h) (fun w hw => by have hx := hw.2; simp [go_sem, hx]) hS ?_
          simp only [List.getElem_toArray, List.getElem_cons_succ, List.getElem_cons_zero, Act.put, List.setIfInBounds_toArray, List.set_cons_zero, List.set_cons_succ]
          refine hd_take 8 (.bool false) rfl rfl (by kernel_rfl) (by kernel_rfl) (by kernel_rfl) (fun _ _ _ h => h) (fun w hw => by simp [go_sem, huv]) hS ?_
          refine wpAnyH_done (by kernel_rfl) (NoPanic.normal ?_) _
          simp only [List.getElem_toArray, List.getElem_cons_succ, List.getElem_cons_zero, Act.put, List.setIfInBounds_toArray, List.set_cons_zero, List.set_cons_succ]
          go_wp2_with fail
          go_roundw
          case rel => exact ⟨i + 1, by omega, by go_num, HE2.out, hbd⟩
          case measure => simp [intOf]; omega
        · have HR := Lib.hid (HNE.out huv)
          clear HIA HNE HEQ
          go_wp2_with fail
          refine wp_region_noPanic ?_
          refine wp_region_held_drew (S := fun W => W.cell? ⟨p, o + i, none⟩ = some (.int .i64 u) ∧ W.cell? ⟨p2, o2 + i, none⟩ = some (.int .i64 v)) (by kernel_rfl) hcd (fun hS => ?_)
          refine hd_take 0 (.slice (some ⟨p, o, none⟩) n c) rfl rfl (by kernel_rfl) (by kernel_rfl) (by kernel_rfl) (fun _ _ _ h => h) (fun w hw => by go_simp) hS ?_
          refine hd_take 1 (.int .i64 (i : Int)) rfl rfl (by kernel_rfl) (by kernel_rfl) (by kernel_rfl) (fun _ _ _ h => h) (fun w hw => by go_simp) hS ?_
          refine hd_take 4 (.slice (some ⟨p2, o2, none⟩) n d) rfl rfl (by kernel_rfl) (by kernel_rfl) (by kernel_rfl) (fun _ _ _ h => h) (fun w hw => by go_simp) hS ?_
          refine hd_take 5 (.int .i64 (i : Int)) rfl rfl (by kernel_rfl) (by kernel_rfl) (by kernel_rfl) (fun _ _ _ h => h) (fun w hw => by go_simp) hS ?_
          simp only [List.getElem_toArray, List.getElem_cons_succ, List.getElem_cons_zero, Act.put, List.setIfInBounds_toArray, List.set_cons_zero, List.set_cons_succ]
          refine hd_take 2 (.pointer (some ⟨p, o + i, none⟩)) rfl rfl (by kernel_rfl) (by kernel_rfl) (by kernel_rfl) (fun _ _ _ h => h) (fun w hw => by go_simp) hS ?_
          refine hd_take 6 (.pointer (some ⟨p2, o2 + i, none⟩)) rfl rfl (by kernel_rfl) (by kernel_rfl) (by kernel_rfl) (fun _ _ _ h => h) (fun w hw => by go_simp) hS ?_
          simp only [List.getElem_toArray, List.getElem_cons_succ, List.getElem_cons_zero, Act.put, List.setIfInBounds_toArray, List.set_cons_zero, List.set_cons_succ]
          refine hd_take 3 (.int .i64 u) rfl rfl (by kernel_rfl) (by kernel_rfl) (by kernel_rfl) (fun _ _ _ h => h) (fun w hw => by have hx := hw.1; simp [go_sem, hx]) hS ?_
          refine hd_take 7 (.int .i64 v) rfl rfl (by kernel_rfl) (by kernel_rfl) (by kernel_rfl) (fun _ _ _ h => h) (fun w hw => by have hx := hw.2; simp [go_sem, hx]) hS ?_
          simp only [List.getElem_toArray, List.getElem_cons_succ, List.getElem_cons_zero, Act.put, List.setIfInBounds_toArray, List.set_cons_zero, List.set_cons_succ]
          refine hd_take 8 (.bool true) rfl rfl (by kernel_rfl) (by kernel_rfl) (by kernel_rfl) (fun _ _ _ h => h) (fun w hw => by simp [go_sem, huv]) hS ?_
          refine wpAnyH_done (by kernel_rfl) (NoPanic.normal ?_) _
          simp only [List.getElem_toArray, List.getElem_cons_succ, List.getElem_cons_zero, Act.put, List.setIfInBounds_toArray, List.set_cons_zero, List.set_cons_succ]
          go_wp2_with fail
          go_ret
          exact ⟨ret_bool' HR.out.symm, hbd⟩
      · obtain rfl : i = n := by omega
        have hx : ¬ ((i : Int) < i) := by omega
        have HR := Lib.hid (HS.out HE.out)
        clear HIA
        go_wp2_with fail
        go_ret
        exact ⟨ret_bool' HR.out.symm, hbel⟩
  · have HR : Hid (sameI a b = false) := decide_eq_false (fun h => e (by rw [← hn, ← hm, h]))
    have hne : ¬ ((n : Int) = (m : Int)) := by omega
    generalize sameI a b = r at HR ⊢
    clear hn hm ha hb HAW
    go_enter Tryz.func25, Tryz.ntmps25
    go_wp2_with fail
    go_ret
    exact ⟨ret_bool' HR.out.symm, Below.refl _ _⟩

set_option maxHeartbeats 4000000 in
set_option maxRecDepth 1000000 in
theorem refCheckSteps_any (s : StV) (w : World) (h : StOK w s) :
    Calls Tryz.prog 22 #[.agg s.cs.toArray] w fun e w' => e = .returned (.int .i64 (ckSt s.ok)) ∧ Below w.heap.size w w' := by
  have hk := h.k16
  obtain ⟨W0, hW0⟩ : ∃ W : World, W = w.alloc (.cells s.cs.toArray 29) := ⟨_, rfl⟩
  have b0 : Hid (Below w.heap.size w W0) := by unfold Hid; rw [hW0]; exact alloc_below _ _
  have x0 : Hid (Blk W0 w.heap.size 29 s.cs.toArray) := by unfold Hid; rw [hW0]; exact Blk.new w _ _
  have HW0 := Lib.hid hW0
  have HIN := Lib.hid (StV.info (s := s) hk)
  have HVS : Hid (∀ W, Below w.heap.size w W → Calls Tryz.prog 43 #[.agg s.cs.toArray] W fun e w' => e = .returned (.bool s.ok) ∧ Below W.heap.size W w') := fun W hW => refValidSteps_any s W (h.below hW)
  have HR : Hid (∀ b, s.ok = b → ckSt s.ok = if b = true then 0 else 70) := fun b hb => by subst hb; rfl
  generalize s.ok = ok at *
  generalize s.cs = cs at *
  clear h hk hW0
  cases ok with
  | true =>
    have HR := HR.out true rfl
    go_enter Tryz.func22, Tryz.ntmps22
    go_wp2_with (first
      | (rw [← HW0.out])
      | (refine wpList_load_row rfl 29 (.tmp 1) rfl (w.heap.size) rfl 29 cs.toArray (0, 0) _ x0.out Tryz.underlying29 rfl HIN.out ?_)
      | (go_at_call 43; (with_reducible refine (HVS.out _ b0.out).mono ?_); rintro e w1 ⟨rfl, hb⟩; have D1 := Lib.hid (bel_on b0.out hb); clear hb))
    go_ret
    exact ⟨rfl, D1.out⟩
  | false =>
    have HR := HR.out false rfl
    go_enter Tryz.func22, Tryz.ntmps22
    go_wp2_with (first
      | (rw [← HW0.out])
      | (refine wpList_load_row rfl 29 (.tmp 1) rfl (w.heap.size) rfl 29 cs.toArray (0, 0) _ x0.out Tryz.underlying29 rfl HIN.out ?_)
      | (go_at_call 43; (with_reducible refine (HVS.out _ b0.out).mono ?_); rintro e w1 ⟨rfl, hb⟩; have D1 := Lib.hid (bel_on b0.out hb); clear hb))
    go_ret
    exact ⟨rfl, D1.out⟩

set_option maxHeartbeats 8000000 in
set_option maxRecDepth 1000000 in
theorem codeSteps_walk_ (s : StV) (x : Int) (Y : Option Addr) (c : Nat) (y : List UInt8) (w : World) (h : StOK w s) (hx1 : -9223372036854775808 ≤ x) (hx2 : x ≤ 9223372036854775807) {n : Nat} (hy : y.length = n) (hY : BR w Y c y) :
    Calls Tryz.prog 3 #[.agg s.cs.toArray, .int .i64 x, .slice Y n c] w fun e w' => e = .returned (.bool true) ∧ Below w.heap.size w w' := by
  have hk := h.k16
  have mixed : Tryz.prog.follows Departure.mixedOrders = true := by kernel_rfl
  obtain ⟨W0, hW0⟩ : ∃ W : World, W = w.alloc (.cells s.cs.toArray 29) := ⟨_, rfl⟩
  have b0 : Hid (Below w.heap.size w W0) := by unfold Hid; rw [hW0]; exact alloc_below _ _
  have x0 : Hid (Blk W0 w.heap.size 29 s.cs.toArray) := by unfold Hid; rw [hW0]; exact Blk.new w _ _
  have HW0 := Lib.hid hW0
  have HIN := Lib.hid (StV.info (s := s) hk)
  have HL20 : Hid (s.cs.length = 20) := StV.len hk
  have HYL := Lib.hid hy
  have HYW : Hid (∀ W, Below w.heap.size w W → BR W Y c y) := fun W hW => hY.below hW
  have HF1 : Hid (∀ W, Below w.heap.size w W → Calls Tryz.prog 19 #[.agg s.cs.toArray, .int .i64 x] W fun e w' => WordErr (s.wordR x) e w' ∧ Below W.heap.size W w') := fun W hW => StepWord_any s x W (h.below hW) hx1 hx2
  have HF2 : Hid (∀ W, Below w.heap.size w W → Calls Tryz.prog 20 #[.agg s.cs.toArray, .int .i64 x] W fun e w' => WordErr (s.wordR x) e w' ∧ Below W.heap.size W w') := fun W hW => refStepWord_any s x W (h.below hW) hx1 hx2
  have HK1 : Hid (∀ W, Below w.heap.size w W → Calls Tryz.prog 21 #[.agg s.cs.toArray] W fun e w' => e = .returned (.int .i64 (ckSt s.ok)) ∧ Below W.heap.size W w') := fun W hW => CheckSteps_any s W (h.below hW)
  have HK2 : Hid (∀ W, Below w.heap.size w W → Calls Tryz.prog 22 #[.agg s.cs.toArray] W fun e w' => e = .returned (.int .i64 (ckSt s.ok)) ∧ Below W.heap.size W w') := fun W hW => refCheckSteps_any s W (h.below hW)
  have HT1 : Hid (∀ A a W, Below w.heap.size w W → BR W A a y → Calls Tryz.prog 23 #[.agg s.cs.toArray, .slice A n a] W fun e w' => IntsErr (s.wtsR y) e w' ∧ Below W.heap.size W w') := fun A a W hW hB => Weights_any s A a y W (h.below hW) hy hB
  have HT2 : Hid (∀ A a W, Below w.heap.size w W → BR W A a y → Calls Tryz.prog 24 #[.agg s.cs.toArray, .slice A n a] W fun e w' => IntsErr (s.wtsR y) e w' ∧ Below W.heap.size W w') := fun A a W hW hB => refWeights_any s A a y W (h.below hW) hy hB
  have HN1 : Hid (∀ A a W, Below w.heap.size w W → BR W A a y → Calls Tryz.prog 26 #[.agg s.cs.toArray, .slice A n a] W fun e w' => IntsErr (s.nmsR y) e w' ∧ Below W.heap.size W w') := fun A a W hW hB => TraceSteps_any s A a y W (h.below hW) hy hB
  have HN2 : Hid (∀ A a W, Below w.heap.size w W → BR W A a y → Calls Tryz.prog 27 #[.agg s.cs.toArray, .slice A n a] W fun e w' => IntsErr (s.nmsR y) e w' ∧ Below W.heap.size W w') := fun A a W hW hB => refTraceSteps_any s A a y W (h.below hW) hy hB
  have HSI : Hid (∀ l A a B b W {k : Nat}, l.length = k → IR W A a l → IR W B b l → Calls Tryz.prog 25 #[.slice A k a, .slice B k b] W fun e w' => e = .returned (.bool true) ∧ Below W.heap.size W w') := fun l A a B b W k hk h1 h2 => by
    have := SameInts_any A a l B b l W hk hk h1 h2
    rwa [show sameI l l = true from decide_eq_true rfl] at this
  have HX : Hid (∀ W, Below W0.heap.size W0 W → Blk W w.heap.size 29 s.cs.toArray) := fun W hW => x0.out.below' hW
  have HXR : Hid (∀ W, Below W0.heap.size W0 W → W.rangeAt w.heap.size 0 s.cs) := fun W hW => (x0.out.below' hW).range
  obtain ⟨lw, ew, hlw⟩ : ∃ l e, s.wordR x = (l, e) := ⟨_, _, rfl⟩
  obtain ⟨lt, et, hlt⟩ : ∃ l e, s.wtsR y = (l, e) := ⟨_, _, rfl⟩
  obtain ⟨ln, en, hln⟩ : ∃ l e, s.nmsR y = (l, e) := ⟨_, _, rfl⟩
  rw [hlw] at HF1 HF2
  rw [hlt] at HT1 HT2
  rw [hln] at HN1 HN2
  obtain ⟨nw, HLW⟩ : ∃ k, Hid (lw.length = k) := ⟨_, rfl⟩
  obtain ⟨nt, HLT⟩ : ∃ k, Hid (lt.length = k) := ⟨_, rfl⟩
  obtain ⟨nn, HLN⟩ : ∃ k, Hid (ln.length = k) := ⟨_, rfl⟩
  have HWE : Hid (∀ e w', WordErr (lw, ew) e w' → ∃ A c, e = .returned (.tuple #[.slice A nw c, .int .i64 ew]) ∧ BR w' A c lw) := fun e w' ⟨A, c, he, hb⟩ => ⟨A, c, by rw [he, ← HLW.out], hb⟩
  have HTE : Hid (∀ e w', IntsErr (lt, et) e w' → ∃ A c, e = .returned (.tuple #[.slice A nt c, .int .i64 et]) ∧ IR w' A c lt) := fun e w' ⟨A, c, he, hb⟩ => ⟨A, c, by rw [he, ← HLT.out], hb⟩
  have HNE : Hid (∀ e w', IntsErr (ln, en) e w' → ∃ A c, e = .returned (.tuple #[.slice A nn c, .int .i64 en]) ∧ IR w' A c ln) := fun e w' ⟨A, c, he, hb⟩ => ⟨A, c, by rw [he, ← HLN.out], hb⟩
  generalize WordErr (lw, ew) = WE at *
  generalize IntsErr (lt, et) = TE at *
  generalize IntsErr (ln, en) = NE at *
  generalize ckSt s.ok = ck at *
  generalize s.cs = cs at *
  have hny : (n : Int) ≤ 140737488351232 := by have := hY.len; omega
  clear h hk hW0 hlw hlt hln hy hY
  go_enter Tryz.func3, Tryz.ntmps3
  go_wp2_with (first
    | (rw [← HW0.out])
    | (at_builtin; refine wpList_append_bytes _ rfl (.tmp 14) (.tmp 15) rfl W0.heap.size (some ⟨W0.heap.size, 0, none⟩) 0 0 [] rfl rfl (OB.lit0 _ _ (Nat.le_refl _)) Y n c y HYL.out rfl (((HYW.out _ b0.out).below (alloc_bel _ _)).src HYL.out) (by omega) (by simp) ?_; intro A3 c3 w3 hon3 hbl3 hg3; clear hg3; have O3 := Lib.hid (hon3.br (by simp; have := HYL.out; omega)); have D3 := Lib.hid ((alloc_bel W0 _).trans hbl3); have X3 := Lib.hid (HX.out _ D3.out); clear hon3 hbl3; simp only [Nat.zero_add])
    | (refine wpList_load_row rfl 29 (.tmp 3) rfl (w.heap.size) rfl 29 cs.toArray (0, 0) _ X3.out Tryz.underlying29 rfl HIN.out ?_)
    | (refine wpList_load_row rfl 29 (.tmp 3) rfl (w.heap.size) rfl 29 cs.toArray (0, 0) _ X4.out Tryz.underlying29 rfl HIN.out ?_)
    | (go_at_call 19; (with_reducible refine (HF1.out _ (bel_on b0.out D3.out)).mono ?_); rintro e w4 ⟨hE, hb⟩; obtain ⟨A1, c1, rfl, hB1⟩ := HWE.out _ _ hE; have D4 := Lib.hid (bel_on D3.out hb); have B4 := Lib.hid hB1; have X4 := Lib.hid (HX.out _ D4.out); have O4 := Lib.hid (O3.out.below hb); clear hE hb hB1)
    | (go_at_call 20; (with_reducible refine (HF2.out _ (bel_on b0.out D4.out)).mono ?_); rintro e w5 ⟨hE, hb⟩; obtain ⟨A2, c2, rfl, hB2⟩ := HWE.out _ _ hE; have D5 := Lib.hid (bel_on D4.out hb); have B5 := Lib.hid (B4.out.below hb); have C5 := Lib.hid hB2; have O5 := Lib.hid (O4.out.below hb); clear hE hb hB2))
  have HS4 : Hid (∀ W, Below w5.heap.size w5 W → BR W A1 c1 lw ∧ BR W A2 c2 lw ∧ W.rangeAt w.heap.size 0 cs) := fun W hW => ⟨B5.out.below hW, C5.out.below hW, HXR.out _ (bel_on D5.out hW)⟩
  have HB4 : Hid (∀ W, Below w5.heap.size w5 W → Below w.heap.size w W) := fun W hW => bel_on b0.out (bel_on D5.out hW)
  have HS : Hid (∀ W, Below w5.heap.size w5 W → BR W A1 c1 lw ∧ BR W A2 c2 lw ∧ W.rangeAt w.heap.size 0 cs) := fun W hW => HS4.out W hW
  have E0 : Below w5.heap.size w5 w5 := Below.refl _ _
  refine wp_region_noPanic ?_
  refine wp_region_held_drew (S := fun W => BR W A1 c1 lw ∧ BR W A2 c2 lw ∧ W.rangeAt w.heap.size 0 cs) (by kernel_rfl) (HS.out _ E0.drew) (fun hS => ?_)
  have E0 := E0.drew
  refine hd_take 0 (.slice A1 nw c1) rfl rfl (by kernel_rfl) (by kernel_rfl) (by kernel_rfl) (fun _ _ _ h => h) (fun w hw => by go_simp) hS ?_
  simp only [List.getElem_toArray, List.getElem_cons_succ, List.getElem_cons_zero, Act.put, List.setIfInBounds_toArray, List.set_cons_zero, List.set_cons_succ]
  refine hd_take 2 (.slice A2 nw c2) rfl rfl (by kernel_rfl) (by kernel_rfl) (by kernel_rfl) (fun _ _ _ h => h) (fun w hw => by go_simp) hS ?_
  simp only [List.getElem_toArray, List.getElem_cons_succ, List.getElem_cons_zero, Act.put, List.setIfInBounds_toArray, List.set_cons_zero, List.set_cons_succ]
  refine hd_take 1 (.string (strB lw)) rfl rfl (by kernel_rfl) (by kernel_rfl) (by kernel_rfl) (fun _ _ _ h => h) (fun w hw => by have hx := run_string_br hw.1 _ HLW.out; simp [execOp, Act.eval, Act.put, Sem.run_bind, hx]) hS ?_
  simp only [List.getElem_toArray, List.getElem_cons_succ, List.getElem_cons_zero, Act.put, List.setIfInBounds_toArray, List.set_cons_zero, List.set_cons_succ]
  refine hd_take 3 (.string (strB lw)) rfl rfl (by kernel_rfl) (by kernel_rfl) (by kernel_rfl) (fun _ _ _ h => h) (fun w hw => by have hx := run_string_br hw.2.1 _ HLW.out; simp [execOp, Act.eval, Act.put, Sem.run_bind, hx]) hS ?_
  simp only [List.getElem_toArray, List.getElem_cons_succ, List.getElem_cons_zero, Act.put, List.setIfInBounds_toArray, List.set_cons_zero, List.set_cons_succ]
  refine hd_take 4 (.bool false) rfl rfl (by kernel_rfl) (by kernel_rfl) (by kernel_rfl) (fun _ _ _ h => h) (fun w hw => by simp [go_sem]) hS ?_
  simp only [List.getElem_toArray, List.getElem_cons_succ, List.getElem_cons_zero, Act.put, List.setIfInBounds_toArray, List.set_cons_zero, List.set_cons_succ]
  refine hd_take 5 (.bool false) rfl rfl (by kernel_rfl) (by kernel_rfl) (by kernel_rfl) (fun _ _ _ h => h) (fun w hw => by go_simp) hS ?_
  simp only [List.getElem_toArray, List.getElem_cons_succ, List.getElem_cons_zero, Act.put, List.setIfInBounds_toArray, List.set_cons_zero, List.set_cons_succ]
  refine hg_take 6 (.int .i64 ew) rfl (by rfl) (by kernel_rfl) (by kernel_rfl) (by kernel_rfl) (fun _ _ _ h => h) (fun w hw => by go_simp) hS ?_
  simp only [List.getElem_toArray, List.getElem_cons_succ, List.getElem_cons_zero, Act.put, List.setIfInBounds_toArray, List.set_cons_zero, List.set_cons_succ]
  refine hg_take 7 (.int .i64 ew) rfl (by rfl) (by kernel_rfl) (by kernel_rfl) (by kernel_rfl) (fun _ _ _ h => h) (fun w hw => by go_simp) hS ?_
  simp only [List.getElem_toArray, List.getElem_cons_succ, List.getElem_cons_zero, Act.put, List.setIfInBounds_toArray, List.set_cons_zero, List.set_cons_succ]
  refine hg_take 8 (.bool false) rfl (by rfl) (by kernel_rfl) (by kernel_rfl) (by kernel_rfl) (fun _ _ _ h => h) (fun w hw => by simp [go_sem]) hS ?_
  simp only [List.getElem_toArray, List.getElem_cons_succ, List.getElem_cons_zero, Act.put, List.setIfInBounds_toArray, List.set_cons_zero, List.set_cons_succ]
  refine hd_take 9 (.bool false) rfl rfl (by kernel_rfl) (by kernel_rfl) (by kernel_rfl) (fun _ _ _ h => h) (fun w hw => by go_simp) hS ?_
  simp only [List.getElem_toArray, List.getElem_cons_succ, List.getElem_cons_zero, Act.put, List.setIfInBounds_toArray, List.set_cons_zero, List.set_cons_succ]
  refine hd_take 10 (.bool false) rfl rfl (by kernel_rfl) (by kernel_rfl) (by kernel_rfl) (fun _ _ _ h => h) (fun w hw => by go_simp) hS ?_
  simp only [List.getElem_toArray, List.getElem_cons_succ, List.getElem_cons_zero, Act.put, List.setIfInBounds_toArray, List.set_cons_zero, List.set_cons_succ]
  refine hg_load 11 (w.heap.size) (0) (cs) _ _ rfl rfl (by rfl) (by kernel_rfl) (by kernel_rfl) (by kernel_rfl) (fun _ _ _ h => h) rfl (fun w hw => hw.2.2) Tryz.underlying29 rfl (infoS HL20.out) hS ?_
  simp only [List.getElem_toArray, List.getElem_cons_succ, List.getElem_cons_zero, Act.put, List.setIfInBounds_toArray, List.set_cons_zero, List.set_cons_succ]
  refine hg_load 13 (w.heap.size) (0) (cs) _ _ rfl rfl (by rfl) (by kernel_rfl) (by kernel_rfl) (by kernel_rfl) (fun _ _ _ h => h) rfl (fun w hw => hw.2.2) Tryz.underlying29 rfl (infoS HL20.out) hS ?_
  simp only [List.getElem_toArray, List.getElem_cons_succ, List.getElem_cons_zero, Act.put, List.setIfInBounds_toArray, List.set_cons_zero, List.set_cons_succ]
  refine hg_calls 12 21 #[.agg cs.toArray] rfl (by rfl) (by kernel_rfl) (by go_simp <;> rfl) ?_
  refine (HK1.out _ (HB4.out _ E0)).mono ?_
  rintro e u1 ⟨rfl, hb⟩
  have E1_ := bel_on E0 hb
  have hS1_ := HS.out _ E1_
  clear hb
  refine ⟨_, rfl, hS1_, ?_⟩
  simp only [List.getElem_toArray, List.getElem_cons_succ, List.getElem_cons_zero, Act.put, List.setIfInBounds_toArray, List.set_cons_zero, List.set_cons_succ]
  refine hg_calls 14 22 #[.agg cs.toArray] rfl (by rfl) (by kernel_rfl) (by go_simp <;> rfl) ?_
  refine (HK2.out _ (HB4.out _ E1_)).mono ?_
  rintro e u2 ⟨rfl, hb⟩
  have E2_ := bel_on E1_ hb
  have hS2_ := HS.out _ E2_
  clear hb
  refine ⟨_, rfl, hS2_, ?_⟩
  simp only [List.getElem_toArray, List.getElem_cons_succ, List.getElem_cons_zero, Act.put, List.setIfInBounds_toArray, List.set_cons_zero, List.set_cons_succ]
  refine hg_take 15 (.bool false) rfl (by rfl) (by kernel_rfl) (by kernel_rfl) (by kernel_rfl) (fun _ _ _ h => h) (fun w hw => by simp [go_sem]) hS2_ ?_
  simp only [List.getElem_toArray, List.getElem_cons_succ, List.getElem_cons_zero, Act.put, List.setIfInBounds_toArray, List.set_cons_zero, List.set_cons_succ]
  refine hd_take 16 (.bool false) rfl rfl (by kernel_rfl) (by kernel_rfl) (by kernel_rfl) (fun _ _ _ h => h) (fun w hw => by go_simp) hS2_ ?_
  simp only [List.getElem_toArray, List.getElem_cons_succ, List.getElem_cons_zero, Act.put, List.setIfInBounds_toArray, List.set_cons_zero, List.set_cons_succ]
  refine wpAnyH_done (by kernel_rfl) (NoPanic.normal ?_) _
  have D6 := Lib.hid (HB4.out _ E2_)
  have O6 := Lib.hid (O5.out.below E2_)
  have X6 := Lib.hid (HX.out _ (bel_on D5.out E2_))
  have HX2 : Hid (∀ W, Below u2.heap.size u2 W → Blk W w.heap.size 29 cs.toArray) := fun W hW => X6.out.below' hW
  have G6 : Below u2.heap.size u2 u2 := Below.refl _ _
  clear HS4 HB4 HX HXR E0 E1_ E2_ hS hS1_ hS2_
  go_wp2_with (first
    | (refine wpList_load_row rfl 29 (.tmp 3) rfl (w.heap.size) rfl 29 cs.toArray (0, 0) _ X6.out Tryz.underlying29 rfl HIN.out ?_)
    | (refine wpList_load_row rfl 29 (.tmp 3) rfl (w.heap.size) rfl 29 cs.toArray (0, 0) _ X7.out Tryz.underlying29 rfl HIN.out ?_)
    | (refine wpList_load_row rfl 29 (.tmp 3) rfl (w.heap.size) rfl 29 cs.toArray (0, 0) _ X9.out Tryz.underlying29 rfl HIN.out ?_)
    | (refine wpList_load_row rfl 29 (.tmp 3) rfl (w.heap.size) rfl 29 cs.toArray (0, 0) _ Y7.out Tryz.underlying29 rfl HIN.out ?_)
    | (go_at_call 23; (with_reducible refine (HT1.out _ _ _ D6.out O6.out).mono ?_); rintro e w7 ⟨hE, hb⟩; obtain ⟨A7, c7, rfl, hB⟩ := HTE.out _ _ hE; have D7 := Lib.hid (bel_on D6.out hb); have G7 := Lib.hid hb; have B7 := Lib.hid hB; have O7 := Lib.hid (O6.out.below hb); have X7 := Lib.hid (HX2.out _ hb); clear hE hb hB)
    | (go_at_call 24; (with_reducible refine (HT2.out _ _ _ D7.out (HYW.out _ D7.out)).mono ?_); rintro e w8 ⟨hE, hb⟩; obtain ⟨A8, c8, rfl, hB⟩ := HTE.out _ _ hE; have D8 := Lib.hid (bel_on D7.out hb); have G8 := Lib.hid (bel_on G7.out hb); have C8 := Lib.hid hB; have B8 := Lib.hid (B7.out.below hb); have O8 := Lib.hid (O7.out.below hb); clear hE hb hB)
    | (go_at_call 25; (with_reducible refine (HSI.out _ _ _ _ _ _ HLT.out B8.out C8.out).mono ?_); rintro e w9 ⟨rfl, hb⟩; have D9 := Lib.hid (bel_on D8.out hb); have G9 := Lib.hid (bel_on G8.out hb); have O9 := Lib.hid (O8.out.below hb); have X9 := Lib.hid (HX2.out _ G9.out); clear hb)
    | (go_at_call 26; (with_reducible refine (HN1.out _ _ _ D9.out O9.out).mono ?_); rintro e v7 ⟨hE, hb⟩; obtain ⟨Z7, z7, rfl, hB⟩ := HNE.out _ _ hE; have M7 := Lib.hid (bel_on D9.out hb); have K7 := Lib.hid (bel_on G9.out hb); have N7 := Lib.hid hB; have P7 := Lib.hid (O9.out.below hb); have Y7 := Lib.hid (HX2.out _ K7.out); clear hE hb hB)
    | (go_at_call 27; (with_reducible refine (HN2.out _ _ _ M7.out (HYW.out _ M7.out)).mono ?_); rintro e v8 ⟨hE, hb⟩; obtain ⟨Z8, z8, rfl, hB⟩ := HNE.out _ _ hE; have M8 := Lib.hid (bel_on M7.out hb); have Q8 := Lib.hid hB; have N8 := Lib.hid (N7.out.below hb); have P8 := Lib.hid (P7.out.below hb); clear hE hb hB)
    | (go_at_call 25; (with_reducible refine (HSI.out _ _ _ _ _ _ HLN.out N8.out Q8.out).mono ?_); rintro e v9 ⟨rfl, hb⟩; have M9 := Lib.hid (bel_on M8.out hb); have hs1 := run_string_br (P8.out.below hb) _ HYL.out; have hs2 := run_string_br (HYW.out _ M9.out) _ HYL.out; clear hb))
  go_ret
  exact ⟨rfl, M9.out⟩
theorem codeSteps_walk (s : StV) (x : Int) (Y : Option Addr) (c : Nat) (y : List UInt8) {w : World} (h : StOK w s) (hx1 : -9223372036854775808 ≤ x) (hx2 : x ≤ 9223372036854775807) (hY : BR w Y c y) :
    Calls Tryz.prog 3 #[.agg s.cs.toArray, .int .i64 x, .slice Y y.length c] w fun e w' => e = .returned (.bool true) ∧ Below w.heap.size w w' := codeSteps_walk_ s x Y c y w h hx1 hx2 rfl hY
end Go.Proofs.YtenpkmgbaajeeaaGreat
