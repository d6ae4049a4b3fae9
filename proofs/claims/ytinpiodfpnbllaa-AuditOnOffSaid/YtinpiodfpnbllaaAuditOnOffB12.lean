/-
  Lemmas and contracts, joined: part 12.
-/
import Derived.Test.YtinpiodfpnbllaaAuditOnOffB11
set_option linter.unusedSimpArgs false
set_option linter.unusedVariables false
set_option linter.unnecessarySimpa false
/- The proof that a receiver is not on a list: the reference's. -/
namespace Go.Proofs.Ytinpiodfpnbllaa
open Go.RowKit
set_option linter.unusedVariables false
set_option linter.unusedSimpArgs false

theorem untilS_hit {es : List Ent} (hv : validL es = true) {u : Int} (h : 0 ≤ untilS es u) : hitE (endedE es) u = true := by
  have hm := (untilS_valid hv u _).2 ⟨h, rfl⟩
  obtain ⟨i, hi, he⟩ := List.getElem_of_mem hm
  exact (low_at hv hi (u := u) (by rw [he])).2.1
theorem untilS_miss {es : List Ent} {u : Int} (h0 : 0 ≤ u) (h1 : u < 64) (hv : validL es = true) (h : untilS es u < 0) : hitE (endedE es) u = false := by
  refine low_none h0 h1 fun k hk e => ?_
  have hm := List.getElem_mem hk
  have := (untilS_valid hv u es[k].2).1 (by rw [← e]; exact hm)
  omega

set_option maxHeartbeats 4000000 in
set_option maxRecDepth 100000 in
theorem refProveOff_bad (es : List Ent) (u : Int) (A : Option Addr) (c : Nat) (w : World) {n : Nat} (hn : es.length = n) (h : ER w A c es) (hv : validL es = false) :
    Calls Try.prog 37 #[.slice A n c, .int .i64 u] w fun e w' => OffEnd w.heap.size (offS es u) e w' ∧ Below w.heap.size w w' := by
  have HS : Hid (offS es u = offZ 90) := by
    unfold Hid offS
    rw [if_pos hv]
  have b0 := alloc_bel w (.cells #[.int .i64 0, .int .i64 0, .int .i64 0, .int .i64 0, .int .i64 0, .int .i64 0, .slice none 0 0, .int .i64 0, .int .i64 0, .slice none 0 0] 81)
  have HV : Hid (∀ W, Below w.heap.size w W → Calls Try.prog 86 #[.slice A n c] W fun e w' => e = .returned (.bool false) ∧ Below W.heap.size W w') := fun W hW => by
    have := refValidList_any es A c W hn (h.below hW)
    rw [hv] at this
    exact this
  clear hn h
  go_enter Try.func37, Try.ntmps37
  go_wp2_with (go_at_call 86; refine (HV.out _ b0).mono ?_; rintro e w1 ⟨rfl, hb1⟩; have b1 := Lib.hid (bel_on b0 hb1); have BB := Lib.hid hb1; have hz := hb1.size; obtain ⟨hc, hf⟩ := bcell hb1; clear hb1)
  have hlt : w.heap.size < w1.heap.size := by simp at hz; omega
  have g0 : w.heap.size < (w.alloc (.cells #[.int .i64 0, .int .i64 0, .int .i64 0, .int .i64 0, .int .i64 0, .int .i64 0, .slice none 0 0, .int .i64 0, .int .i64 0, .slice none 0 0] 81)).heap.size := by simp
  have k0 := (hc _ 0 g0).trans ((Blk.new w _ _).cell 0)
  have k1 := (hc _ 1 g0).trans ((Blk.new w _ _).cell 1)
  have k2 := (hc _ 2 g0).trans ((Blk.new w _ _).cell 2)
  have k3 := (hc _ 3 g0).trans ((Blk.new w _ _).cell 3)
  have k4 := (hc _ 4 g0).trans ((Blk.new w _ _).cell 4)
  have k5 := (hc _ 5 g0).trans ((Blk.new w _ _).cell 5)
  have k6 := (hc _ 6 g0).trans ((Blk.new w _ _).cell 6)
  have k7 := (hc _ 7 g0).trans ((Blk.new w _ _).cell 7)
  have k8 := (hc _ 8 g0).trans ((Blk.new w _ _).cell 8)
  have k9 := (hc _ 9 g0).trans ((Blk.new w _ _).cell 9)
  clear hc hf g0
  refine bodyPost_ret (v := .tuple #[.agg #[.int .i64 0, .int .i64 0, .int .i64 0, .int .i64 0, .int .i64 0, .int .i64 0, .slice none 0 0, .int .i64 0, .int .i64 0, .slice none 0 0], .int .i64 90]) (by simp [results, Try.f37, go_sem, k0, k1, k2, k3, k4, k5, k6, k7, k8, k9, hlt]) rfl ⟨⟨none, 0, none, 0, by rw [HS.out]; rfl, by rw [HS.out]; exact OK16.nil _ _, by rw [HS.out]; exact OK16.nil _ _⟩, ?_⟩
  exact ((((((((((b1.out.setCell (by simp) _).setCell (by simp) _).setCell (by simp) _).setCell (by simp) _).setCell (by simp) _).setCell (by simp) _).setCell (by simp) _).setCell (by simp) _).setCell (by simp) _).setCell (by simp) _)

set_option maxHeartbeats 4000000 in
set_option maxRecDepth 100000 in
theorem refProveOff_low (es : List Ent) (u : Int) (A : Option Addr) (c : Nat) (w : World) {n : Nat} (hn : es.length = n) (h : ER w A c es) (hv : validL es = true) (hu : u < 0) :
    Calls Try.prog 37 #[.slice A n c, .int .i64 u] w fun e w' => OffEnd w.heap.size (offS es u) e w' ∧ Below w.heap.size w w' := by
  have HS : Hid (offS es u = offZ 2) := by
    unfold Hid offS
    rw [if_neg (by rw [hv]; simp), if_pos (.inl hu)]
  have b0 := alloc_bel w (.cells #[.int .i64 0, .int .i64 0, .int .i64 0, .int .i64 0, .int .i64 0, .int .i64 0, .slice none 0 0, .int .i64 0, .int .i64 0, .slice none 0 0] 81)
  have HV : Hid (∀ W, Below w.heap.size w W → Calls Try.prog 86 #[.slice A n c] W fun e w' => e = .returned (.bool true) ∧ Below W.heap.size W w') := fun W hW => by
    have := refValidList_any es A c W hn (h.below hW)
    rw [hv] at this
    exact this
  have s0 : decide (u < 0) = true := by simp [hu]
  clear hn h
  go_enter Try.func37, Try.ntmps37
  go_wp2_with (go_at_call 86; refine (HV.out _ b0).mono ?_; rintro e w1 ⟨rfl, hb1⟩; have b1 := Lib.hid (bel_on b0 hb1); have BB := Lib.hid hb1; have hz := hb1.size; obtain ⟨hc, hf⟩ := bcell hb1; clear hb1)
  have hlt : w.heap.size < w1.heap.size := by simp at hz; omega
  have g0 : w.heap.size < (w.alloc (.cells #[.int .i64 0, .int .i64 0, .int .i64 0, .int .i64 0, .int .i64 0, .int .i64 0, .slice none 0 0, .int .i64 0, .int .i64 0, .slice none 0 0] 81)).heap.size := by simp
  have k0 := (hc _ 0 g0).trans ((Blk.new w _ _).cell 0)
  have k1 := (hc _ 1 g0).trans ((Blk.new w _ _).cell 1)
  have k2 := (hc _ 2 g0).trans ((Blk.new w _ _).cell 2)
  have k3 := (hc _ 3 g0).trans ((Blk.new w _ _).cell 3)
  have k4 := (hc _ 4 g0).trans ((Blk.new w _ _).cell 4)
  have k5 := (hc _ 5 g0).trans ((Blk.new w _ _).cell 5)
  have k6 := (hc _ 6 g0).trans ((Blk.new w _ _).cell 6)
  have k7 := (hc _ 7 g0).trans ((Blk.new w _ _).cell 7)
  have k8 := (hc _ 8 g0).trans ((Blk.new w _ _).cell 8)
  have k9 := (hc _ 9 g0).trans ((Blk.new w _ _).cell 9)
  clear hc hf g0
  refine bodyPost_ret (v := .tuple #[.agg #[.int .i64 0, .int .i64 0, .int .i64 0, .int .i64 0, .int .i64 0, .int .i64 0, .slice none 0 0, .int .i64 0, .int .i64 0, .slice none 0 0], .int .i64 2]) (by simp [results, Try.f37, go_sem, k0, k1, k2, k3, k4, k5, k6, k7, k8, k9, hlt]) rfl ⟨⟨none, 0, none, 0, by rw [HS.out]; rfl, by rw [HS.out]; exact OK16.nil _ _, by rw [HS.out]; exact OK16.nil _ _⟩, ?_⟩
  exact ((((((((((b1.out.setCell (by simp) _).setCell (by simp) _).setCell (by simp) _).setCell (by simp) _).setCell (by simp) _).setCell (by simp) _).setCell (by simp) _).setCell (by simp) _).setCell (by simp) _).setCell (by simp) _)

set_option maxHeartbeats 4000000 in
set_option maxRecDepth 100000 in
theorem refProveOff_high (es : List Ent) (u : Int) (A : Option Addr) (c : Nat) (w : World) {n : Nat} (hn : es.length = n) (h : ER w A c es) (hv : validL es = true) (hu : 64 ≤ u) :
    Calls Try.prog 37 #[.slice A n c, .int .i64 u] w fun e w' => OffEnd w.heap.size (offS es u) e w' ∧ Below w.heap.size w w' := by
  have HS : Hid (offS es u = offZ 2) := by
    unfold Hid offS
    rw [if_neg (by rw [hv]; simp), if_pos (.inr hu)]
  have b0 := alloc_bel w (.cells #[.int .i64 0, .int .i64 0, .int .i64 0, .int .i64 0, .int .i64 0, .int .i64 0, .slice none 0 0, .int .i64 0, .int .i64 0, .slice none 0 0] 81)
  have HV : Hid (∀ W, Below w.heap.size w W → Calls Try.prog 86 #[.slice A n c] W fun e w' => e = .returned (.bool true) ∧ Below W.heap.size W w') := fun W hW => by
    have := refValidList_any es A c W hn (h.below hW)
    rw [hv] at this
    exact this
  have s0 : decide (u < 0) = false := by simp; omega
  have s1 : decide (64 ≤ u) = true := by simp [hu]
  clear hn h
  go_enter Try.func37, Try.ntmps37
  go_wp2_with (go_at_call 86; refine (HV.out _ b0).mono ?_; rintro e w1 ⟨rfl, hb1⟩; have b1 := Lib.hid (bel_on b0 hb1); have BB := Lib.hid hb1; have hz := hb1.size; obtain ⟨hc, hf⟩ := bcell hb1; clear hb1)
  have hlt : w.heap.size < w1.heap.size := by simp at hz; omega
  have g0 : w.heap.size < (w.alloc (.cells #[.int .i64 0, .int .i64 0, .int .i64 0, .int .i64 0, .int .i64 0, .int .i64 0, .slice none 0 0, .int .i64 0, .int .i64 0, .slice none 0 0] 81)).heap.size := by simp
  have k0 := (hc _ 0 g0).trans ((Blk.new w _ _).cell 0)
  have k1 := (hc _ 1 g0).trans ((Blk.new w _ _).cell 1)
  have k2 := (hc _ 2 g0).trans ((Blk.new w _ _).cell 2)
  have k3 := (hc _ 3 g0).trans ((Blk.new w _ _).cell 3)
  have k4 := (hc _ 4 g0).trans ((Blk.new w _ _).cell 4)
  have k5 := (hc _ 5 g0).trans ((Blk.new w _ _).cell 5)
  have k6 := (hc _ 6 g0).trans ((Blk.new w _ _).cell 6)
  have k7 := (hc _ 7 g0).trans ((Blk.new w _ _).cell 7)
  have k8 := (hc _ 8 g0).trans ((Blk.new w _ _).cell 8)
  have k9 := (hc _ 9 g0).trans ((Blk.new w _ _).cell 9)
  clear hc hf g0
  refine bodyPost_ret (v := .tuple #[.agg #[.int .i64 0, .int .i64 0, .int .i64 0, .int .i64 0, .int .i64 0, .int .i64 0, .slice none 0 0, .int .i64 0, .int .i64 0, .slice none 0 0], .int .i64 2]) (by simp [results, Try.f37, go_sem, k0, k1, k2, k3, k4, k5, k6, k7, k8, k9, hlt]) rfl ⟨⟨none, 0, none, 0, by rw [HS.out]; rfl, by rw [HS.out]; exact OK16.nil _ _, by rw [HS.out]; exact OK16.nil _ _⟩, ?_⟩
  exact ((((((((((b1.out.setCell (by simp) _).setCell (by simp) _).setCell (by simp) _).setCell (by simp) _).setCell (by simp) _).setCell (by simp) _).setCell (by simp) _).setCell (by simp) _).setCell (by simp) _).setCell (by simp) _)

set_option maxHeartbeats 4000000 in
set_option maxRecDepth 100000 in
theorem refProveOff_there (es : List Ent) (u : Int) (A : Option Addr) (c : Nat) (w : World) {n : Nat} (hn : es.length = n) (h : ER w A c es) (hv : validL es = true) (h2 : 0 ≤ u) (h3 : u < 64) (hun : 0 ≤ untilS es u) :
    Calls Try.prog 37 #[.slice A n c, .int .i64 u] w fun e w' => OffEnd w.heap.size (offS es u) e w' ∧ Below w.heap.size w w' := by
  have HS : Hid (offS es u = offZ 6) := by
    unfold Hid offS
    rw [if_neg (by rw [hv]; simp), if_neg (by omega), if_pos (untilS_hit hv hun)]
  have b0 := alloc_bel w (.cells #[.int .i64 0, .int .i64 0, .int .i64 0, .int .i64 0, .int .i64 0, .int .i64 0, .slice none 0 0, .int .i64 0, .int .i64 0, .slice none 0 0] 81)
  have HV : Hid (∀ W, Below w.heap.size w W → Calls Try.prog 86 #[.slice A n c] W fun e w' => e = .returned (.bool true) ∧ Below W.heap.size W w') := fun W hW => by
    have := refValidList_any es A c W hn (h.below hW)
    rw [hv] at this
    exact this
  have HUN : Hid (∀ W, Below w.heap.size w W → Calls Try.prog 88 #[.slice A n c, .int .i64 u] W fun e w' => e = .returned (.int .i64 (untilS es u)) ∧ Below W.heap.size W w') := fun W hW => refUntil_any es u A c W hn (h.below hW)
  have s0 : decide (u < 0) = false := by simp; omega
  have s1 : decide (64 ≤ u) = false := by simp; omega
  generalize untilS es u = z at *
  clear hn h
  go_enter Try.func37, Try.ntmps37
  go_wp2_with (first
    | (go_at_call 86; refine (HV.out _ b0).mono ?_; rintro e w1 ⟨rfl, hb1⟩; have b1 := Lib.hid (bel_on b0 hb1); have BB := Lib.hid hb1;  clear hb1)
    | (go_at_call 88; refine (HUN.out _ b1.out).mono ?_; rintro e w2 ⟨rfl, hb2⟩; have c1 := Lib.hid (bel_on b1.out hb2); have CC := Lib.hid (bel_on BB.out hb2); have hz := CC.out.size; obtain ⟨hc, hf⟩ := bcell CC.out; clear hb2))
  have hlt : w.heap.size < w2.heap.size := by simp at hz; omega
  have g0 : w.heap.size < (w.alloc (.cells #[.int .i64 0, .int .i64 0, .int .i64 0, .int .i64 0, .int .i64 0, .int .i64 0, .slice none 0 0, .int .i64 0, .int .i64 0, .slice none 0 0] 81)).heap.size := by simp
  have k0 := (hc _ 0 g0).trans ((Blk.new w _ _).cell 0)
  have k1 := (hc _ 1 g0).trans ((Blk.new w _ _).cell 1)
  have k2 := (hc _ 2 g0).trans ((Blk.new w _ _).cell 2)
  have k3 := (hc _ 3 g0).trans ((Blk.new w _ _).cell 3)
  have k4 := (hc _ 4 g0).trans ((Blk.new w _ _).cell 4)
  have k5 := (hc _ 5 g0).trans ((Blk.new w _ _).cell 5)
  have k6 := (hc _ 6 g0).trans ((Blk.new w _ _).cell 6)
  have k7 := (hc _ 7 g0).trans ((Blk.new w _ _).cell 7)
  have k8 := (hc _ 8 g0).trans ((Blk.new w _ _).cell 8)
  have k9 := (hc _ 9 g0).trans ((Blk.new w _ _).cell 9)
  clear hc hf g0
  refine bodyPost_ret (v := .tuple #[.agg #[.int .i64 0, .int .i64 0, .int .i64 0, .int .i64 0, .int .i64 0, .int .i64 0, .slice none 0 0, .int .i64 0, .int .i64 0, .slice none 0 0], .int .i64 6]) (by simp [results, Try.f37, go_sem, k0, k1, k2, k3, k4, k5, k6, k7, k8, k9, hlt]) rfl ⟨⟨none, 0, none, 0, by rw [HS.out]; rfl, by rw [HS.out]; exact OK16.nil _ _, by rw [HS.out]; exact OK16.nil _ _⟩, ?_⟩
  exact ((((((((((c1.out.setCell (by simp) _).setCell (by simp) _).setCell (by simp) _).setCell (by simp) _).setCell (by simp) _).setCell (by simp) _).setCell (by simp) _).setCell (by simp) _).setCell (by simp) _).setCell (by simp) _)

set_option maxHeartbeats 4000000 in
set_option maxRecDepth 100000 in
theorem refProveOff_in (es : List Ent) (u : Int) (A : Option Addr) (c : Nat) (w : World) {n : Nat} (hn : es.length = n) (h : ER w A c es) (hv : validL es = true) (h2 : 0 ≤ u) (h3 : u < 64) (hun : untilS es u < 0) :
    Calls Try.prog 37 #[.slice A n c, .int .i64 u] w fun e w' => OffEnd w.heap.size (offS es u) e w' ∧ Below w.heap.size w w' := by
  have hs : n ≤ 64 := by rw [← hn]; exact validL_length hv
  have hnb : (n : Int) ≤ 64 := by omega
  have HL : Hid ((endedE es).length = n + 2) := by unfold Hid; rw [endedE_length, hn]
  have HLL : Hid ((leavesE es).length = n + 2) := by unfold Hid; rw [leavesE_length, hn]
  have HA : Hid (All16 (leavesE es)) := leavesE_16 es
  have hh := untilS_miss h2 h3 hv hun
  have s0 : decide (u < 0) = false := by simp; omega
  have s1 : decide (64 ≤ u) = false := by simp; omega
  have s2 : decide (0 ≤ untilS es u) = false := by simp; omega
  have HON : Hid (offS es u = ⟨(endedE es).getD (lowE (endedE es) u - 1) (0, 0), (endedE es).getD (lowE (endedE es) u) (0, 0), ((n + 2 : Nat) : Int), ((lowE (endedE es) u - 1 : Nat) : Int), pathS (leavesE es) (lowE (endedE es) u - 1), ((n + 2 : Nat) : Int), (lowE (endedE es) u : Int), pathS (leavesE es) (lowE (endedE es) u), 0⟩) := by
    unfold Hid offS
    rw [if_neg (by rw [hv]; simp), if_neg (by omega), if_neg (by rw [hh]; simp), hn]
  have HPW := Lib.hid (List.pairwise_iff_getElem.1 (endedE_pair hv))
  have HFI : Hid (∃ h : 0 < (endedE es).length, (endedE es)[0].1 < u) := ⟨by rw [HL.out]; omega, by simp [endedE]; omega⟩
  have HLA : Hid (∀ k (h : k < (endedE es).length), (endedE es)[k].1 < u → k + 1 < n + 2) := fun k h hk => by
    apply Classical.byContradiction
    intro hc
    have h' := h
    rw [HL.out] at h'
    have e : k = es.length + 1 := by omega
    subst e
    simp [endedE] at hk
    omega
  have b0 := alloc_bel w (.cells #[.int .i64 0, .int .i64 0, .int .i64 0, .int .i64 0, .int .i64 0, .int .i64 0, .slice none 0 0, .int .i64 0, .int .i64 0, .slice none 0 0] 81)
  have HV : Hid (∀ W, Below w.heap.size w W → Calls Try.prog 86 #[.slice A n c] W fun e w' => e = .returned (.bool true) ∧ Below W.heap.size W w') := fun W hW => by
    have := refValidList_any es A c W hn (h.below hW)
    rw [hv] at this
    exact this
  have HUN : Hid (∀ W, Below w.heap.size w W → Calls Try.prog 88 #[.slice A n c, .int .i64 u] W fun e w' => e = .returned (.int .i64 (untilS es u)) ∧ Below W.heap.size W w') := fun W hW => refUntil_any es u A c W hn (h.below hW)
  have HPR : Hid (∀ i, i < n + 2 → ∀ Y y W, KR W Y y (leavesE es) → Calls Try.prog 71 #[.slice Y (n + 2) y, .int .i64 (i : Int)] W fun e w' => (∃ A' c', e = .returned (.agg (prC (n + 2 : Nat) (i : Nat) A' (pathS (leavesE es) i).length c').toArray) ∧ OK16 W.heap.size w' A' c' (pathS (leavesE es) i)) ∧ Below W.heap.size W w') := fun i hi Y y W hW => refProofOf_any (leavesE es) i Y y W HLL.out hi (by omega) hW
  have HEN : Hid (∀ W, Below w.heap.size w W → Calls Try.prog 89 #[.slice A n c] W fun e w' => (∃ X x, e = .returned (.slice X (n + 2) x) ∧ OE W.heap.size w' X x (endedE es)) ∧ Below W.heap.size W w') := fun W hW => refEnded_any es A c W hn (h.below hW) (by omega)
  have HLV : Hid (∀ W, Below w.heap.size w W → Calls Try.prog 87 #[.slice A n c] W fun e w' => (∃ X x, e = .returned (.slice X (n + 2) x) ∧ OK16 W.heap.size w' X x (leavesE es)) ∧ Below W.heap.size W w') := fun W hW => refLeaves_any es (valid_isE hv) A c W hn (h.below hW) (by omega)
  have B0 := Lib.hid (Blk.new w 81 #[.int .i64 0, .int .i64 0, .int .i64 0, .int .i64 0, .int .i64 0, .int .i64 0, .slice none 0 0, .int .i64 0, .int .i64 0, .slice none 0 0])
  generalize untilS es u = z at *
  generalize endedE es = ds at *
  generalize leavesE es = ls at *
  clear hn h hv h2 h3 hh hun
  go_enter Try.func37, Try.ntmps37
  go_wp2_with (first
    | (go_at_call 86; refine (HV.out _ b0).mono ?_; rintro e w1 ⟨rfl, hb1⟩; have b1 := bel_on b0 hb1; have C1 := Lib.hid (B0.out.below' hb1); have z1 : w.heap.size + 1 ≤ w1.heap.size := (by have := hb1.size; simp at this; omega); clear hb1)
    | (go_at_call 88; refine (HUN.out _ b1).mono ?_; rintro e w2 ⟨rfl, hb2⟩; have b2 := bel_on b1 hb2; have C2 := Lib.hid (C1.out.below' hb2); have z2 := Nat.le_trans z1 hb2.size; clear hb2)
    | (go_at_call 89; refine (HEN.out _ b2).mono ?_; rintro e w3 ⟨⟨X, x, rfl, ho3⟩, hb3⟩; have b3 := bel_on b2 hb3; have C3 := Lib.hid (C2.out.below' hb3); have O3 := Lib.hid (ho3.le_ z2); have z3 := Nat.le_trans z2 hb3.size; clear hb3 ho3)
    | (go_at_call 87; refine (HLV.out _ b3).mono ?_; rintro e w4 ⟨⟨Y, y, rfl, hk4⟩, hb4⟩; have b4 := bel_on b3 hb4; have C4 := Lib.hid (C3.out.below' hb4); have O4 := Lib.hid (O3.out.below hb4); have K4 := Lib.hid (hk4.le_ z3); have z4 := Nat.le_trans z3 hb4.size; clear hb4 hk4))
  go_loop [8] (fun vi => ∃ i : Nat, i + 1 < n + 2 ∧ vi = .int .i64 (i : Int) ∧ Hid (∀ k (h : k < ds.length), k ≤ i → ds[k].1 < u)) (fun vi => n + 2 - (intOf vi).toNat)
  case atStart => exact ⟨0, by omega, rfl, fun k h hk => by have e : k = 0 := (by omega); subst e; exact HFI.out.2⟩
  case round =>
    obtain ⟨i, hi, rfl, HI⟩ := hrel
    have hii : (i : Int) + 1 < (n : Int) + 2 := by omega
    have hi0 : (i : Int) < (n : Int) + 2 := by omega
    have hil : i < ds.length := by have := HL.out; omega
    have hjl : i + 1 < ds.length := by have := HL.out; omega
    have hb : ∃ b off, X = some ⟨b, off, none⟩ := by obtain ⟨b, off, e, _⟩ := (O4.out.er (by rw [HL.out]; omega)).at_ hil; exact ⟨b, off, e⟩
    obtain ⟨b, off, rfl⟩ := hb
    have HSX : Hid (∀ W, OE (w.heap.size + 1) W (some ⟨b, off, none⟩) x ds → (W.cell? ⟨b, off + i * 2, none⟩ = some (.int .i64 ds[i].1) ∧ W.cell? ⟨b, off + i * 2 + 1, none⟩ = some (.int .i64 ds[i].2)) ∧ (W.cell? ⟨b, off + (i + 1) * 2, none⟩ = some (.int .i64 ds[i + 1].1) ∧ W.cell? ⟨b, off + (i + 1) * 2 + 1, none⟩ = some (.int .i64 ds[i + 1].2))) := fun W hW => by
      obtain ⟨b', off', e, _, c0, c1⟩ := (hW.er (by rw [HL.out]; omega)).at_ hil
      obtain ⟨b2, off2, e2, _, c2, c3⟩ := (hW.er (by rw [HL.out]; omega)).at_ hjl
      injection e with e
      injection e with e3 e4
      subst e3 e4
      injection e2 with e2
      injection e2 with e5 e6
      subst e5 e6
      exact ⟨⟨c0, c1⟩, c2, c3⟩
    have e1 : IntKind.i64.wrap ((i : Int) + 1) = ((i + 1 : Nat) : Int) := by rw [IntKind.wrap_i64]; omega
    have e2 : ((i + 1 : Nat) : Int) < (n : Int) + 2 := by omega
    have e3 : ((i + 1 : Nat) : Int).toNat = i + 1 := by omega
    by_cases hlt : ds[i + 1].1 < u
    · have HG : Hid (∀ k (h : k < ds.length), k ≤ i + 1 → ds[k].1 < u) := fun k h hk => by
        by_cases e : k = i + 1
        · subst e; exact hlt
        · exact HI.out k h (by omega)
      have hnx := HLA.out (i + 1) hjl hlt
      have hc := (HSX.out _ O4.out).2.1
      obtain ⟨X1, hX1⟩ : ∃ X1, ds[i + 1] = X1 := ⟨_, rfl⟩
      rw [hX1] at hc hlt
      obtain ⟨r1, q1⟩ := X1
      simp only at hc hlt
      have t0 : decide (r1 < u) = true := by simp [hlt]
      clear hX1 HSX hil hjl hlt
      go_wp2_with fail
      go_round
      case rel => exact ⟨i + 1, by omega, by go_num, HG⟩
      case measure => simp [intOf]; omega
    · have hl1 : lowE ds u = i + 1 := by
        refine lowE_eq (by omega) (fun k h hk => HI.out k h (by omega)) (fun k h hk => ?_)
        by_cases e : k = i + 1
        · subst e; omega
        · have := HPW.out (i + 1) k hjl h (by omega); omega
      have HS : Hid (offS es u = ⟨ds[i], ds[i + 1], ((n + 2 : Nat) : Int), (i : Int), pathS ls i, ((n + 2 : Nat) : Int), ((i + 1 : Nat) : Int), pathS ls (i + 1), 0⟩) := by
        unfold Hid
        rw [HON.out, hl1, show i + 1 - 1 = i from rfl, List.getD_eq_getElem?_getD, List.getElem?_eq_getElem hil, List.getD_eq_getElem?_getD, List.getElem?_eq_getElem hjl]
        rfl
      have HP1 := Lib.hid (HPR.out i (by omega))
      have HP2 := Lib.hid (HPR.out (i + 1) (by omega))
      generalize pathS ls i = P at HP1 HS
      generalize pathS ls (i + 1) = R at HP2 HS
      obtain ⟨X0, hX0⟩ : ∃ X0, ds[i] = X0 := ⟨_, rfl⟩
      obtain ⟨X1, hX1⟩ : ∃ X1, ds[i + 1] = X1 := ⟨_, rfl⟩
      rw [hX0, hX1] at HSX HS
      rw [hX1] at hlt
      obtain ⟨r0, q0⟩ := X0
      obtain ⟨r1, q1⟩ := X1
      simp only at HSX hlt
      have hc := (HSX.out _ O4.out).2.1
      have t0 : decide (r1 < u) = false := by simp; omega
      obtain ⟨m1, hm1⟩ : ∃ m1, P.length = m1 := ⟨_, rfl⟩
      obtain ⟨m2, hm2⟩ : ∃ m2, R.length = m2 := ⟨_, rfl⟩
      rw [hm1] at HP1
      rw [hm2] at HP2
      have HM1 := Lib.hid hm1
      have HM2 := Lib.hid hm2
      clear hil hjl hX0 hX1 hm1 hm2 hl1 HON HPR hlt
      go_wp2_with fail
      have O5 := Lib.hid (show OE (w.heap.size + 1) w4.drew (some ⟨b, off, none⟩) x ds from O4.out.below (Below.refl _ _).drew)
      have K5 := Lib.hid (show OK16 (w.heap.size + 1) w4.drew Y y ls from K4.out.below (Below.refl _ _).drew)
      have bd : Below w.heap.size w w4.drew := b4.drew
      have E0 := C4.out.drew
      clear hc
      refine wp_region_noPanic ?_
      refine wp_region_held_drew (S := fun w' => (w'.cell? ⟨b, off + i * 2, none⟩ = some (.int .i64 r0) ∧ w'.cell? ⟨b, off + i * 2 + 1, none⟩ = some (.int .i64 q0)) ∧ (w'.cell? ⟨b, off + (i + 1) * 2, none⟩ = some (.int .i64 r1) ∧ w'.cell? ⟨b, off + (i + 1) * 2 + 1, none⟩ = some (.int .i64 q1))) (by kernel_rfl) (HSX.out _ O5.out) (fun hS => ?_)
      refine hd_take 0 (_) rfl rfl (by kernel_rfl) (by kernel_rfl) (by kernel_rfl) (fun _ _ _ h => h) (fun w _ => by go_simp <;> rfl) hS ?_
      refine hd_take 1 (_) rfl rfl (by kernel_rfl) (by kernel_rfl) (by kernel_rfl) (fun _ _ _ h => h) (fun w _ => by go_simp <;> rfl) hS ?_
      refine hd_take 4 (_) rfl rfl (by kernel_rfl) (by kernel_rfl) (by kernel_rfl) (fun _ _ _ h => h) (fun w _ => by go_simp <;> rfl) hS ?_
      refine hd_take 5 (_) rfl rfl (by kernel_rfl) (by kernel_rfl) (by kernel_rfl) (fun _ _ _ h => h) (fun w _ => by go_simp <;> rfl) hS ?_
      refine hd_take 9 (_) rfl rfl (by kernel_rfl) (by kernel_rfl) (by kernel_rfl) (fun _ _ _ h => h) (fun w _ => by go_simp <;> rfl) hS ?_
      refine hd_take 10 (_) rfl rfl (by kernel_rfl) (by kernel_rfl) (by kernel_rfl) (fun _ _ _ h => h) (fun w _ => by go_simp <;> rfl) hS ?_
      refine hd_take 12 (_) rfl rfl (by kernel_rfl) (by kernel_rfl) (by kernel_rfl) (fun _ _ _ h => h) (fun w _ => by go_simp <;> rfl) hS ?_
      refine hd_take 13 (_) rfl rfl (by kernel_rfl) (by kernel_rfl) (by kernel_rfl) (fun _ _ _ h => h) (fun w _ => by go_simp <;> rfl) hS ?_
      simp only [List.getElem_toArray, List.getElem_cons_succ, List.getElem_cons_zero, Act.put, List.setIfInBounds_toArray, List.set_cons_zero, List.set_cons_succ]
      refine hd_take 2 (_) rfl rfl (by kernel_rfl) (by kernel_rfl) (by kernel_rfl) (fun _ _ _ h => h) (fun w _ => by go_simp <;> rfl) hS ?_
      refine hd_take 6 (.int .i64 ((i + 1 : Nat) : Int)) rfl rfl (by kernel_rfl) (by kernel_rfl) (by kernel_rfl) (fun _ _ _ h => h) (fun w _ => by simp [go_sem, e1]) hS ?_
      refine hd_take 14 (.int .i64 ((i + 1 : Nat) : Int)) rfl rfl (by kernel_rfl) (by kernel_rfl) (by kernel_rfl) (fun _ _ _ h => h) (fun w _ => by simp [go_sem, e1]) hS ?_
      simp only [List.getElem_toArray, List.getElem_cons_succ, List.getElem_cons_zero, Act.put, List.setIfInBounds_toArray, List.set_cons_zero, List.set_cons_succ]
      refine hd_take 3 (.agg #[.int .i64 r0, .int .i64 q0]) rfl rfl (by kernel_rfl) (by kernel_rfl) (by kernel_rfl) (fun _ _ _ h => h) (fun w h => by have hx := h.1.1; have hy := h.1.2; simp [go_sem, hx, hy]) hS ?_
      refine hd_take 7 (.pointer (some ⟨b, off + (i + 1) * 2, none⟩)) rfl rfl (by kernel_rfl) (by kernel_rfl) (by kernel_rfl) (fun _ _ _ h => h) (fun w _ => by go_simp; intro hneg; omega) hS ?_
      simp only [List.getElem_toArray, List.getElem_cons_succ, List.getElem_cons_zero, Act.put, List.setIfInBounds_toArray, List.set_cons_zero, List.set_cons_succ]
      refine hd_take 8 (.agg #[.int .i64 r1, .int .i64 q1]) rfl rfl (by kernel_rfl) (by kernel_rfl) (by kernel_rfl) (fun _ _ _ h => h) (fun w h => by have hx := h.2.1; have hy := h.2.2; simp [go_sem, hx, hy]) hS ?_
      simp only [List.getElem_toArray, List.getElem_cons_succ, List.getElem_cons_zero, Act.put, List.setIfInBounds_toArray, List.set_cons_zero, List.set_cons_succ]
      refine hd_calls 11 71 #[.slice Y (n + 2) y, .int .i64 (i : Int)] rfl rfl (by kernel_rfl) (by go_simp <;> rfl) ?_
      refine (HP1.out _ _ _ (K5.out.kr (fun k hk => HA.out k hk) (by rw [HLL.out]; omega))).mono ?_
      rintro e w5 ⟨⟨A2, c2, rfl, ho5⟩, hb5⟩
      have d5 := bel_on bd hb5
      have O6 := O5.out.below hb5
      have K6 := K5.out.below hb5
      have P6 : OK16 (w.heap.size + 1) w5 A2 c2 P := ho5.le_ z4
      refine ⟨_, rfl, HSX.out _ O6, ?_⟩
      simp only [List.getElem_toArray, List.getElem_cons_succ, List.getElem_cons_zero, Act.put, List.setIfInBounds_toArray, List.set_cons_zero, List.set_cons_succ]
      refine hd_calls 15 71 #[.slice Y (n + 2) y, .int .i64 ((i + 1 : Nat) : Int)] rfl rfl (by kernel_rfl) (by go_simp <;> rfl) ?_
      refine (HP2.out _ _ _ (K6.kr (fun k hk => HA.out k hk) (by rw [HLL.out]; omega))).mono ?_
      rintro e w6 ⟨⟨A3, c3, rfl, ho6⟩, hb6⟩
      have d6 := bel_on d5 hb6
      have O7 := O6.below hb6
      have P7 := P6.below hb6
      have R7 : OK16 (w.heap.size + 1) w6 A3 c3 R := ho6.le_ (Nat.le_trans z4 hb5.size)
      refine ⟨_, rfl, HSX.out _ O7, ?_⟩
      simp only [List.getElem_toArray, List.getElem_cons_succ, List.getElem_cons_zero, Act.put, List.setIfInBounds_toArray, List.set_cons_zero, List.set_cons_succ]
      refine hd_take 16 (.agg #[.int .i64 r0, .int .i64 q0, .int .i64 r1, .int .i64 q1, .int .i64 ((n + 2 : Nat) : Int), .int .i64 (i : Int), .slice A2 m1 c2, .int .i64 ((n + 2 : Nat) : Int), .int .i64 ((i + 1 : Nat) : Int), .slice A3 m2 c3]) rfl rfl (by kernel_rfl) (by kernel_rfl) (by kernel_rfl) (fun _ _ _ h => h) (fun w _ => by simp [go_sem, prC]) (HSX.out _ O7) ?_
      simp only [List.getElem_toArray, List.getElem_cons_succ, List.getElem_cons_zero, Act.put, List.setIfInBounds_toArray, List.set_cons_zero, List.set_cons_succ]
      have F0 := (E0.below' hb5).below' hb6
      have k0 := F0.cell 0
      have f0 := F0.frozen 0
      have k1 := F0.cell 1
      have f1 := F0.frozen 1
      have k2 := F0.cell 2
      have f2 := F0.frozen 2
      have k3 := F0.cell 3
      have f3 := F0.frozen 3
      have k4 := F0.cell 4
      have f4 := F0.frozen 4
      have k5 := F0.cell 5
      have f5 := F0.frozen 5
      have k6 := F0.cell 6
      have f6 := F0.frozen 6
      have k7 := F0.cell 7
      have f7 := F0.frozen 7
      have k8 := F0.cell 8
      have f8 := F0.frozen 8
      have k9 := F0.cell 9
      have f9 := F0.frozen 9
      have O8 := ((((((((((O7).set_low ⟨w.heap.size, 0, none⟩ (.int .i64 r0) (by simp)).set_low ⟨w.heap.size, 1, none⟩ (.int .i64 q0) (by simp)).set_low ⟨w.heap.size, 2, none⟩ (.int .i64 r1) (by simp)).set_low ⟨w.heap.size, 3, none⟩ (.int .i64 q1) (by simp)).set_low ⟨w.heap.size, 4, none⟩ (.int .i64 ((n + 2 : Nat) : Int)) (by simp)).set_low ⟨w.heap.size, 5, none⟩ (.int .i64 (i : Int)) (by simp)).set_low ⟨w.heap.size, 6, none⟩ (.slice A2 m1 c2) (by simp)).set_low ⟨w.heap.size, 7, none⟩ (.int .i64 ((n + 2 : Nat) : Int)) (by simp)).set_low ⟨w.heap.size, 8, none⟩ (.int .i64 ((i + 1 : Nat) : Int)) (by simp)).set_low ⟨w.heap.size, 9, none⟩ (.slice A3 m2 c3) (by simp)
      have P8 := ((((((((((P7).set_low ⟨w.heap.size, 0, none⟩ (.int .i64 r0) (by simp)).set_low ⟨w.heap.size, 1, none⟩ (.int .i64 q0) (by simp)).set_low ⟨w.heap.size, 2, none⟩ (.int .i64 r1) (by simp)).set_low ⟨w.heap.size, 3, none⟩ (.int .i64 q1) (by simp)).set_low ⟨w.heap.size, 4, none⟩ (.int .i64 ((n + 2 : Nat) : Int)) (by simp)).set_low ⟨w.heap.size, 5, none⟩ (.int .i64 (i : Int)) (by simp)).set_low ⟨w.heap.size, 6, none⟩ (.slice A2 m1 c2) (by simp)).set_low ⟨w.heap.size, 7, none⟩ (.int .i64 ((n + 2 : Nat) : Int)) (by simp)).set_low ⟨w.heap.size, 8, none⟩ (.int .i64 ((i + 1 : Nat) : Int)) (by simp)).set_low ⟨w.heap.size, 9, none⟩ (.slice A3 m2 c3) (by simp)
      have R8 := ((((((((((R7).set_low ⟨w.heap.size, 0, none⟩ (.int .i64 r0) (by simp)).set_low ⟨w.heap.size, 1, none⟩ (.int .i64 q0) (by simp)).set_low ⟨w.heap.size, 2, none⟩ (.int .i64 r1) (by simp)).set_low ⟨w.heap.size, 3, none⟩ (.int .i64 q1) (by simp)).set_low ⟨w.heap.size, 4, none⟩ (.int .i64 ((n + 2 : Nat) : Int)) (by simp)).set_low ⟨w.heap.size, 5, none⟩ (.int .i64 (i : Int)) (by simp)).set_low ⟨w.heap.size, 6, none⟩ (.slice A2 m1 c2) (by simp)).set_low ⟨w.heap.size, 7, none⟩ (.int .i64 ((n + 2 : Nat) : Int)) (by simp)).set_low ⟨w.heap.size, 8, none⟩ (.int .i64 ((i + 1 : Nat) : Int)) (by simp)).set_low ⟨w.heap.size, 9, none⟩ (.slice A3 m2 c3) (by simp)
      refine hd_sole 17 (by kernel_rfl) (op_skip (((((((((((w6).setCell ⟨w.heap.size, 0, none⟩ (.int .i64 r0)).setCell ⟨w.heap.size, 1, none⟩ (.int .i64 q0)).setCell ⟨w.heap.size, 2, none⟩ (.int .i64 r1)).setCell ⟨w.heap.size, 3, none⟩ (.int .i64 q1)).setCell ⟨w.heap.size, 4, none⟩ (.int .i64 ((n + 2 : Nat) : Int))).setCell ⟨w.heap.size, 5, none⟩ (.int .i64 (i : Int))).setCell ⟨w.heap.size, 6, none⟩ (.slice A2 m1 c2)).setCell ⟨w.heap.size, 7, none⟩ (.int .i64 ((n + 2 : Nat) : Int))).setCell ⟨w.heap.size, 8, none⟩ (.int .i64 ((i + 1 : Nat) : Int))).setCell ⟨w.heap.size, 9, none⟩ (.slice A3 m2 c3)) rfl rfl (by simp [go_sem, k0, k1, k2, k3, k4, k5, k6, k7, k8, k9, f0, f1, f2, f3, f4, f5, f6, f7, f8, f9]) ⟨HSX.out _ O8, ?_⟩)
      simp only [List.getElem_toArray, List.getElem_cons_succ, List.getElem_cons_zero, Act.put, List.setIfInBounds_toArray, List.set_cons_zero, List.set_cons_succ]
      refine hd_take 18 (_) rfl rfl (by kernel_rfl) (by kernel_rfl) (by kernel_rfl) (fun _ _ _ h => h) (fun w _ => by go_simp <;> rfl) (HSX.out _ O8) ?_
      simp only [List.getElem_toArray, List.getElem_cons_succ, List.getElem_cons_zero, Act.put, List.setIfInBounds_toArray, List.set_cons_zero, List.set_cons_succ]
      refine wpAnyH_done (by kernel_rfl) (NoPanic.normal ?_) _
      have BF := Lib.hid (((((((((((d6).setCell (p := ⟨w.heap.size, 0, none⟩) (by simp) (.int .i64 r0)).setCell (p := ⟨w.heap.size, 1, none⟩) (by simp) (.int .i64 q0)).setCell (p := ⟨w.heap.size, 2, none⟩) (by simp) (.int .i64 r1)).setCell (p := ⟨w.heap.size, 3, none⟩) (by simp) (.int .i64 q1)).setCell (p := ⟨w.heap.size, 4, none⟩) (by simp) (.int .i64 ((n + 2 : Nat) : Int))).setCell (p := ⟨w.heap.size, 5, none⟩) (by simp) (.int .i64 (i : Int))).setCell (p := ⟨w.heap.size, 6, none⟩) (by simp) (.slice A2 m1 c2)).setCell (p := ⟨w.heap.size, 7, none⟩) (by simp) (.int .i64 ((n + 2 : Nat) : Int))).setCell (p := ⟨w.heap.size, 8, none⟩) (by simp) (.int .i64 ((i + 1 : Nat) : Int))).setCell (p := ⟨w.heap.size, 9, none⟩) (by simp) (.slice A3 m2 c3))
      have PF := Lib.hid (P8.le_ (B' := w.heap.size) (by omega))
      have RF := Lib.hid (R8.le_ (B' := w.heap.size) (by omega))
      clear hS O6 O7 O8 P6 P7 P8 R7 R8 K6 ho5 hb5 ho6 hb6 E0 F0 bd d5 d6
      go_wp2_with fail
      refine bodyPost_ret (v := .tuple #[.agg #[.int .i64 r0, .int .i64 q0, .int .i64 r1, .int .i64 q1, .int .i64 ((n + 2 : Nat) : Int), .int .i64 (i : Int), .slice A2 m1 c2, .int .i64 ((n + 2 : Nat) : Int), .int .i64 ((i + 1 : Nat) : Int), .slice A3 m2 c3], .int .i64 0]) (by simp [results, Try.f37, go_sem, k0, k1, k2, k3, k4, k5, k6, k7, k8, k9]) rfl ⟨⟨A2, c2, A3, c3, ?_, by rw [HS.out]; exact PF.out, by rw [HS.out]; exact RF.out⟩, BF.out⟩
      rw [HS.out]
      simp only [abC, HM1.out, HM2.out]

theorem refProveOff_any (es : List Ent) (u : Int) (A : Option Addr) (c : Nat) (w : World) {n : Nat} (hn : es.length = n) (h : ER w A c es) :
    Calls Try.prog 37 #[.slice A n c, .int .i64 u] w fun e w' => OffEnd w.heap.size (offS es u) e w' ∧ Below w.heap.size w w' := by
  cases hv : validL es with
  | false => exact refProveOff_bad es u A c w hn h hv
  | true =>
    by_cases hu : u < 0
    · exact refProveOff_low es u A c w hn h hv hu
    · by_cases hu2 : 64 ≤ u
      · exact refProveOff_high es u A c w hn h hv hu2
      · by_cases hun : 0 ≤ untilS es u
        · exact refProveOff_there es u A c w hn h hv (by omega) (by omega) hun
        · exact refProveOff_in es u A c w hn h hv (by omega) (by omega) (by omega)
end Go.Proofs.Ytinpiodfpnbllaa

/- The law AuditOnOff: the walk. -/
namespace Go.Proofs.Ytinpiodfpnbllaa
open Go.RowKit
set_option linter.unusedVariables false
set_option linter.unusedSimpArgs false

theorem pathS_k16 : ∀ (n : Nat) (l : List (List UInt8)) (i : Nat), l.length = n → ∀ k ∈ pathS l i, k.length = 16 := by
  intro n
  induction n using Nat.strongRecOn with
  | _ n ih =>
    intro l i hl k hk
    rcases Nat.lt_or_ge n 2 with h2 | h2
    · rw [pathS_one (by omega)] at hk; cases hk
    have s1 := splitS_lt h2
    have s2 := splitS_pos n
    by_cases hi : i < splitS n
    · rw [pathS_low (by omega) (by rw [hl]; exact hi), hl] at hk
      rcases List.mem_append.1 hk with hk | hk
      · exact ih (splitS n) s1 _ _ (by rw [List.length_take]; omega) k hk
      · rw [List.mem_singleton.1 hk]; exact rootS_length _
    · rw [pathS_high (by omega) (by rw [hl]; exact hi), hl] at hk
      rcases List.mem_append.1 hk with hk | hk
      · exact ih (n - splitS n) (by omega) _ _ (by rw [List.length_drop]; omega) k hk
      · rw [List.mem_singleton.1 hk]; exact rootS_length _
theorem pathS_short : ∀ (n : Nat) (l : List (List UInt8)) (i : Nat), l.length = n → (pathS l i).length ≤ n := by
  intro n
  induction n using Nat.strongRecOn with
  | _ n ih =>
    intro l i hl
    rcases Nat.lt_or_ge n 2 with h2 | h2
    · rw [pathS_one (by omega)]; simp
    have s1 := splitS_lt h2
    have s2 := splitS_pos n
    by_cases hi : i < splitS n
    · rw [pathS_low (by omega) (by rw [hl]; exact hi), hl, List.length_append]
      have := ih (splitS n) s1 (l.take (splitS n)) i (by rw [List.length_take]; omega)
      simp only [List.length_cons, List.length_nil]; omega
    · rw [pathS_high (by omega) (by rw [hl]; exact hi), hl, List.length_append]
      have := ih (n - splitS n) (by omega) (l.drop (splitS n)) (i - splitS n) (by rw [List.length_drop]; omega)
      simp only [List.length_cons, List.length_nil]; omega

theorem onS_ok (es : List Ent) (u : Int) : Keys16 (onS es u).P ∧ (onS es u).P.length ≤ 1000000 := by
  unfold onS
  split
  · exact ⟨fun k hk => (by cases hk), by simp⟩
  · split
    · exact ⟨fun k hk => (by cases hk), by simp⟩
    · split
      · exact ⟨fun k hk => (by cases hk), by simp⟩
      · rename_i hv _ _
        have hl := validL_length (l := es) (by simpa using hv)
        have := leavesE_length es
        exact ⟨fun k hk => pathS_k16 _ _ _ rfl k hk, by have := pathS_short _ (leavesE es) (lowE (endedE es) u) rfl; simp only; omega⟩
theorem offS_ok (es : List Ent) (u : Int) : (Keys16 (offS es u).P ∧ (offS es u).P.length ≤ 1000000) ∧ (Keys16 (offS es u).P2 ∧ (offS es u).P2.length ≤ 1000000) := by
  unfold offS
  split
  · exact ⟨⟨fun k hk => (by cases hk), by simp [offZ]⟩, fun k hk => (by cases hk), by simp [offZ]⟩
  · split
    · exact ⟨⟨fun k hk => (by cases hk), by simp [offZ]⟩, fun k hk => (by cases hk), by simp [offZ]⟩
    · split
      · exact ⟨⟨fun k hk => (by cases hk), by simp [offZ]⟩, fun k hk => (by cases hk), by simp [offZ]⟩
      · rename_i hv _ _
        have hl := validL_length (l := es) (by simpa using hv)
        have := leavesE_length es
        exact ⟨⟨fun k hk => pathS_k16 _ _ _ rfl k hk, by have := pathS_short _ (leavesE es) (lowE (endedE es) u - 1) rfl; simp only; omega⟩, fun k hk => pathS_k16 _ _ _ rfl k hk, by have := pathS_short _ (leavesE es) (lowE (endedE es) u) rfl; simp only; omega⟩
theorem boxes2 (w : World) (c0 c1 z0 z1 : Array Value) (t0 t1 : TypeId) {W : World} (hW : W = ((((w.alloc (.cells z0 t0)).alloc (.cells z1 t1)).setRow w.heap.size c0).setRow (w.heap.size + 1) c1)) :
    Below w.heap.size w W ∧ Blk W w.heap.size t0 c0 ∧ Blk W (w.heap.size + 1) t1 c1 := by
  subst hW
  refine ⟨below_setRow (below_setRow (alloc2_bel w _ _) (Nat.le_refl _) _) (by omega) _, ?_, ?_⟩
  · exact (setRow_other _ _ _ _ (by omega)).trans ((blk_b0 w z0 t0 _).setRow c0)
  · have h1 : Blk (((w.alloc (.cells z0 t0)).alloc (.cells z1 t1)).setRow w.heap.size c0) (w.heap.size + 1) t1 z1 := (setRow_other _ _ _ _ (by omega)).trans (blk_b1 w _ z1 t1)
    exact h1.setRow c1
theorem blk_second (w : World) (c0 z0 z1 : Array Value) (t0 t1 : TypeId) : Blk (((w.alloc (.cells z0 t0)).alloc (.cells z1 t1)).setRow w.heap.size c0) (w.heap.size + 1) t1 z1 := (setRow_other _ _ _ _ (by omega)).trans (blk_b1 w _ z1 t1)
theorem boxes1 (w : World) (c0 z0 : Array Value) (t0 : TypeId) {W : World} (hW : W = (w.alloc (.cells z0 t0)).setRow w.heap.size c0) : Below w.heap.size w W ∧ Blk W w.heap.size t0 c0 := by
  subst hW
  exact ⟨below_setRow (alloc_bel w _) (Nat.le_refl _) _, (Blk.new w t0 z0).setRow c0⟩

set_option maxHeartbeats 8000000 in
set_option maxRecDepth 100000 in
theorem auditOnOff_in (A : Option Addr) (c : Nat) (es : List Ent) (u : Int) (root : List UInt8) (r1 q1 r2 q2 a b : Int) (A2 : Option Addr) (c2 : Nat) (P : List (List UInt8)) (a2 b2 : Int) (A3 : Option Addr) (c3 : Nat) (R : List (List UInt8)) (w : World)
    (hes : ER w A c es) (hr : root.length = 16) (hP : KR w A2 c2 P) (hR : KR w A3 c3 R) :
    Calls Try.prog 6 #[.slice A es.length c, .int .i64 u, .agg (cellsB root).toArray, .agg #[.int .i64 r1, .int .i64 q1, .int .i64 r2, .int .i64 q2, .int .i64 a, .int .i64 b, .slice A2 P.length c2, .int .i64 a2, .int .i64 b2, .slice A3 R.length c3]] w fun e w' => e = .returned (.bool true) ∧ Below w.heap.size w w' := by
  obtain ⟨n, hn⟩ : ∃ n, es.length = n := ⟨_, rfl⟩
  obtain ⟨m2, hm2⟩ : ∃ n, P.length = n := ⟨_, rfl⟩
  obtain ⟨m3, hm3⟩ : ∃ n, R.length = n := ⟨_, rfl⟩
  rw [hn, hm2, hm3]
  have HR := Lib.hid hr
  have b0 : Below w.heap.size w ((w.alloc (.cells (cellsB root).toArray 23)).alloc (.cells #[.int .i64 r1, .int .i64 q1, .int .i64 r2, .int .i64 q2, .int .i64 a, .int .i64 b, .slice A2 m2 c2, .int .i64 a2, .int .i64 b2, .slice A3 m3 c3] 81)) := alloc2_bel w _ _
  have D0 : Below ((w.alloc (.cells (cellsB root).toArray 23)).alloc (.cells #[.int .i64 r1, .int .i64 q1, .int .i64 r2, .int .i64 q2, .int .i64 a, .int .i64 b, .slice A2 m2 c2, .int .i64 a2, .int .i64 b2, .slice A3 m3 c3] 81)).heap.size ((w.alloc (.cells (cellsB root).toArray 23)).alloc (.cells #[.int .i64 r1, .int .i64 q1, .int .i64 r2, .int .i64 q2, .int .i64 a, .int .i64 b, .slice A2 m2 c2, .int .i64 a2, .int .i64 b2, .slice A3 m3 c3] 81)) ((w.alloc (.cells (cellsB root).toArray 23)).alloc (.cells #[.int .i64 r1, .int .i64 q1, .int .i64 r2, .int .i64 q2, .int .i64 a, .int .i64 b, .slice A2 m2 c2, .int .i64 a2, .int .i64 b2, .slice A3 m3 c3] 81)) := Below.refl _ _
  have BR : Hid (∀ W, Below ((w.alloc (.cells (cellsB root).toArray 23)).alloc (.cells #[.int .i64 r1, .int .i64 q1, .int .i64 r2, .int .i64 q2, .int .i64 a, .int .i64 b, .slice A2 m2 c2, .int .i64 a2, .int .i64 b2, .slice A3 m3 c3] 81)).heap.size ((w.alloc (.cells (cellsB root).toArray 23)).alloc (.cells #[.int .i64 r1, .int .i64 q1, .int .i64 r2, .int .i64 q2, .int .i64 a, .int .i64 b, .slice A2 m2 c2, .int .i64 a2, .int .i64 b2, .slice A3 m3 c3] 81)) W → Blk W w.heap.size 23 (cellsB root).toArray) := fun W hW => (blk_b0 w (cellsB root).toArray 23 _).below' hW
  have BA : Hid (∀ W, Below ((w.alloc (.cells (cellsB root).toArray 23)).alloc (.cells #[.int .i64 r1, .int .i64 q1, .int .i64 r2, .int .i64 q2, .int .i64 a, .int .i64 b, .slice A2 m2 c2, .int .i64 a2, .int .i64 b2, .slice A3 m3 c3] 81)).heap.size ((w.alloc (.cells (cellsB root).toArray 23)).alloc (.cells #[.int .i64 r1, .int .i64 q1, .int .i64 r2, .int .i64 q2, .int .i64 a, .int .i64 b, .slice A2 m2 c2, .int .i64 a2, .int .i64 b2, .slice A3 m3 c3] 81)) W → Blk W (w.heap.size + 1) 81 #[.int .i64 r1, .int .i64 q1, .int .i64 r2, .int .i64 q2, .int .i64 a, .int .i64 b, .slice A2 m2 c2, .int .i64 a2, .int .i64 b2, .slice A3 m3 c3]) := fun W hW => (blk_b1 w _ #[.int .i64 r1, .int .i64 q1, .int .i64 r2, .int .i64 q2, .int .i64 a, .int .i64 b, .slice A2 m2 c2, .int .i64 a2, .int .i64 b2, .slice A3 m3 c3] 81).below' hW
  have H1 : Hid (∀ W, Below w.heap.size w W → Calls Try.prog 34 #[.slice A n c, .int .i64 u] W fun e w' => OnEnd W.heap.size (onS es u).x (onS es u).a (onS es u).b (onS es u).P (onS es u).e e w' ∧ Below W.heap.size W w') := fun W hW => ProveOn_any es u A c W hn (hes.below hW)
  have H2 : Hid (∀ W, Below w.heap.size w W → Calls Try.prog 35 #[.slice A n c, .int .i64 u] W fun e w' => OnEnd W.heap.size (onS es u).x (onS es u).a (onS es u).b (onS es u).P (onS es u).e e w' ∧ Below W.heap.size W w') := fun W hW => refProveOn_any es u A c W hn (hes.below hW)
  have H3 : Hid (∀ W, Below w.heap.size w W → Calls Try.prog 36 #[.slice A n c, .int .i64 u] W fun e w' => OffEnd W.heap.size (offS es u) e w' ∧ Below W.heap.size W w') := fun W hW => ProveOff_any es u A c W hn (hes.below hW)
  have H4 : Hid (∀ W, Below w.heap.size w W → Calls Try.prog 37 #[.slice A n c, .int .i64 u] W fun e w' => OffEnd W.heap.size (offS es u) e w' ∧ Below W.heap.size W w') := fun W hW => refProveOff_any es u A c W hn (hes.below hW)
  have H5 : Hid (∀ W, Below w.heap.size w W → Calls Try.prog 39 #[.agg (cellsB root).toArray, .int .i64 u, .agg #[.int .i64 r1, .int .i64 q1, .int .i64 r2, .int .i64 q2, .int .i64 a, .int .i64 b, .slice A2 m2 c2, .int .i64 a2, .int .i64 b2, .slice A3 m3 c3]] W fun e w' => e = .returned (.tuple #[.bool (voS root u (r1, q1) (r2, q2) a b P a2 b2 R).1, .int .i64 (voS root u (r1, q1) (r2, q2) a b P a2 b2 R).2]) ∧ Below W.heap.size W w') := fun W hW => VerifyOff_any root u r1 q1 r2 q2 a b a2 b2 P R A2 A3 c2 c3 W hr hm2 hm3 (hP.below hW) (hR.below hW)
  have H6 : Hid (∀ W, Below w.heap.size w W → Calls Try.prog 40 #[.agg (cellsB root).toArray, .int .i64 u, .agg #[.int .i64 r1, .int .i64 q1, .int .i64 r2, .int .i64 q2, .int .i64 a, .int .i64 b, .slice A2 m2 c2, .int .i64 a2, .int .i64 b2, .slice A3 m3 c3]] W fun e w' => e = .returned (.tuple #[.bool (voS root u (r1, q1) (r2, q2) a b P a2 b2 R).1, .int .i64 (voS root u (r1, q1) (r2, q2) a b P a2 b2 R).2]) ∧ Below W.heap.size W w') := fun W hW => refVerifyOff_any root u r1 q1 r2 q2 a b a2 b2 P R A2 A3 c2 c3 W hr hm2 hm3 (hP.below hW) (hR.below hW)
  have HO1 := onS_ok es u
  have HO2 := offS_ok es u
  generalize onS es u = v1 at H1 H2 HO1
  generalize offS es u = v2 at H3 H4 HO2
  generalize voS root u (r1, q1) (r2, q2) a b P a2 b2 R = v3 at H5 H6
  obtain ⟨⟨t0, t1⟩, p0, p1, Z, e0⟩ := v1
  obtain ⟨⟨s0, s1⟩, ⟨s2, s3⟩, d0, d1, Y, d2, d3, X, e1⟩ := v2
  obtain ⟨v4, e2⟩ := v3
  obtain ⟨k1, hk1⟩ : ∃ n, Z.length = n := ⟨_, rfl⟩
  obtain ⟨n1, hn1⟩ : ∃ n, Y.length = n := ⟨_, rfl⟩
  obtain ⟨n2, hn2⟩ : ∃ n, X.length = n := ⟨_, rfl⟩
  unfold OnEnd at H1 H2
  unfold OffEnd at H3 H4
  simp only [abC, cellsX, prC, hk1, hn1, hn2] at H1 H2 H3 H4 H5 H6 HO1 HO2
  have HZ := Lib.hid HO1
  have HYX := Lib.hid HO2
  have HK1 := Lib.hid hk1
  have HN1 := Lib.hid hn1
  have HN2 := Lib.hid hn2
  have HSA : Hid (∀ W X1 x1 X2 x2 Y1 y1 Y2 y2, KR W X1 x1 Y → KR W X2 x2 X → KR W Y1 y1 Y → KR W Y2 y2 X → Calls Try.prog 38 #[.agg #[.int .i64 s0, .int .i64 s1, .int .i64 s2, .int .i64 s3, .int .i64 d0, .int .i64 d1, .slice X1 n1 x1, .int .i64 d2, .int .i64 d3, .slice X2 n2 x2], .agg #[.int .i64 s0, .int .i64 s1, .int .i64 s2, .int .i64 s3, .int .i64 d0, .int .i64 d1, .slice Y1 n1 y1, .int .i64 d2, .int .i64 d3, .slice Y2 n2 y2]] W fun e w' => e = .returned (.bool true) ∧ Below W.heap.size W w') := fun W X1 x1 X2 x2 Y1 y1 Y2 y2 h1 h2 h3 h4 => by
    have := sameAbs_any ⟨(s0, s1), (s2, s3), d0, d1, Y, d2, d3, X, e1⟩ X1 X2 Y1 Y2 x1 x2 y1 y2 W h1 h2 h3 h4
    simp only [abC, hn1, hn2] at this
    exact this
  clear hes hr hP hR hn hm2 hm3 HO1 HO2 hk1 hn1 hn2
  go_enter Try.func6, Try.ntmps6
  go_wp2_with (first
    | (go_at_call 34; (with_reducible refine (H1.out _ b0).mono ?_); rintro e w1 ⟨⟨X1, x1, rfl, hk1⟩, hb1⟩; have D1 := bel_on D0 hb1; have K1 := Lib.hid hk1; clear hb1 hk1)
    | (refine wpList_store_row rfl 79 (.tmp 9) (.tmp 23) rfl w1.heap.size #[.int .i64 t0, .int .i64 t1] rfl rfl 79 #[.int .i64 0, .int .i64 0] (blk_b0 w1 _ _ _) (by kernel_rfl) rfl (by simp [Value.oneCell']) ?_)
    | (refine wpList_store_row rfl 52 (.tmp 10) (.tmp 24) rfl (w1.heap.size + 1) #[.int .i64 p0, .int .i64 p1, .slice X1 k1 x1] rfl rfl 52 #[.int .i64 0, .int .i64 0, .slice none 0 0] (blk_second w1 _ _ _ _ _) (by kernel_rfl) rfl (by simp [Value.oneCell']) ?_; obtain ⟨W1, hW1⟩ : ∃ W, W = ((((w1.alloc (.cells #[.int .i64 0, .int .i64 0] 79)).alloc (.cells #[.int .i64 0, .int .i64 0, .slice none 0 0] 52)).setRow w1.heap.size #[.int .i64 t0, .int .i64 t1]).setRow (w1.heap.size + 1) #[.int .i64 p0, .int .i64 p1, .slice X1 k1 x1]) := ⟨_, rfl⟩; rw [← hW1]; obtain ⟨G1, N1, O1⟩ := boxes2 _ _ _ _ _ _ _ hW1; have E1 := bel_on D1 G1; have L1 := K1.out.below G1; have M1 := Lib.hid L1; have NN1 := Lib.hid N1; have OO1 := Lib.hid O1; clear hW1 L1 N1 O1)
    | (go_at_call 35; (with_reducible refine (H2.out _ (bel_on b0 E1)).mono ?_); rintro e w2 ⟨⟨X2, x2, rfl, hk2⟩, hb2⟩; have D2 := bel_on E1 hb2; have HB2 := Lib.hid hb2; have K2 := Lib.hid hk2; clear hb2 hk2)
    | (refine wpList_store_row rfl 79 (.tmp 12) (.tmp 30) rfl w2.heap.size #[.int .i64 t0, .int .i64 t1] rfl rfl 79 #[.int .i64 0, .int .i64 0] (blk_b0 w2 _ _ _) (by kernel_rfl) rfl (by simp [Value.oneCell']) ?_)
    | (refine wpList_store_row rfl 52 (.tmp 13) (.tmp 31) rfl (w2.heap.size + 1) #[.int .i64 p0, .int .i64 p1, .slice X2 k1 x2] rfl rfl 52 #[.int .i64 0, .int .i64 0, .slice none 0 0] (blk_second w2 _ _ _ _ _) (by kernel_rfl) rfl (by simp [Value.oneCell']) ?_; obtain ⟨W2, hW2⟩ : ∃ W, W = ((((w2.alloc (.cells #[.int .i64 0, .int .i64 0] 79)).alloc (.cells #[.int .i64 0, .int .i64 0, .slice none 0 0] 52)).setRow w2.heap.size #[.int .i64 t0, .int .i64 t1]).setRow (w2.heap.size + 1) #[.int .i64 p0, .int .i64 p1, .slice X2 k1 x2]) := ⟨_, rfl⟩; rw [← hW2]; obtain ⟨G2, N2, O2⟩ := boxes2 _ _ _ _ _ _ _ hW2; have E2 := bel_on D2 G2; have J2 := Lib.hid (bel_on HB2.out G2); have L2 := K2.out.below G2; have M2 := Lib.hid L2; have NN2 := Lib.hid N2; have OO2 := Lib.hid O2; clear hW2 L2 N2 O2)
    | (refine wpList_load_row rfl 79 (.tmp 9) rfl w1.heap.size rfl 79 #[.int .i64 t0, .int .i64 t1] (0, 0) _ (NN1.out.below' J2.out) Try.underlying79 rfl (by kernel_rfl) ?_)
    | (refine wpList_load_row rfl 79 (.tmp 12) rfl w2.heap.size rfl 79 #[.int .i64 t0, .int .i64 t1] (0, 0) _ NN2.out Try.underlying79 rfl (by kernel_rfl) ?_)
    | (refine BigFrame.wpList_want (by kernel_rfl) fun K hK => wp_load_row 52 (.tmp 10) rfl (w1.heap.size + 1) rfl 52 #[.int .i64 p0, .int .i64 p1, .slice X1 k1 x1] (0, 0) _ (OO1.out.below' J2.out) Try.underlying52 rfl (by kernel_rfl) (hK _ _ ?_))
    | (refine BigFrame.wpList_want (by kernel_rfl) fun K hK => wp_load_row 52 (.tmp 13) rfl (w2.heap.size + 1) rfl 52 #[.int .i64 p0, .int .i64 p1, .slice X2 k1 x2] (0, 0) _ OO2.out Try.underlying52 rfl (by kernel_rfl) (hK _ _ ?_))
    | (go_at_call 22; refine (sameProof_any p0 p1 Z X1 x1 X2 x2 _ HK1.out ((M1.out.below J2.out).kr HZ.out.1 (by have := HZ.out.2; have := HK1.out; omega)) (M2.out.kr HZ.out.1 (by have := HZ.out.2; have := HK1.out; omega))).mono ?_; rintro e w3 ⟨rfl, hb3⟩; have D3 := bel_on E2 hb3; clear hb3)
    | (go_at_call 36; (with_reducible refine (H3.out _ (bel_on b0 D3)).mono ?_); rintro e w4 ⟨⟨X4, x4, Y4, y4, rfl, hk4, hl4⟩, hb4⟩; have D4 := bel_on D3 hb4; have K4 := Lib.hid hk4; have L4 := Lib.hid hl4; clear hb4 hk4 hl4)
    | (refine wpList_store_row rfl 81 (.tmp 15) (.tmp 51) rfl w4.heap.size #[.int .i64 s0, .int .i64 s1, .int .i64 s2, .int .i64 s3, .int .i64 d0, .int .i64 d1, .slice X4 n1 x4, .int .i64 d2, .int .i64 d3, .slice Y4 n2 y4] rfl rfl 81 #[.int .i64 0, .int .i64 0, .int .i64 0, .int .i64 0, .int .i64 0, .int .i64 0, .slice none 0 0, .int .i64 0, .int .i64 0, .slice none 0 0] (Blk.new w4 _ _) (by kernel_rfl) rfl (by simp [Value.oneCell']) ?_; obtain ⟨W4, hW4⟩ : ∃ W, W = ((w4.alloc (.cells #[.int .i64 0, .int .i64 0, .int .i64 0, .int .i64 0, .int .i64 0, .int .i64 0, .slice none 0 0, .int .i64 0, .int .i64 0, .slice none 0 0] 81)).setRow w4.heap.size #[.int .i64 s0, .int .i64 s1, .int .i64 s2, .int .i64 s3, .int .i64 d0, .int .i64 d1, .slice X4 n1 x4, .int .i64 d2, .int .i64 d3, .slice Y4 n2 y4]) := ⟨_, rfl⟩; rw [← hW4]; obtain ⟨G4, N4⟩ := boxes1 _ _ _ _ hW4; have E4 := bel_on D4 G4; have M4 := Lib.hid (K4.out.below G4); have ML4 := Lib.hid (L4.out.below G4); have NN4 := Lib.hid N4; clear hW4 N4)
    | (go_at_call 37; (with_reducible refine (H4.out _ (bel_on b0 E4)).mono ?_); rintro e w5 ⟨⟨X5, x5, Y5, y5, rfl, hk5, hl5⟩, hb5⟩; have D5 := bel_on E4 hb5; have HB5 := Lib.hid hb5; have K5 := Lib.hid hk5; have L5 := Lib.hid hl5; clear hb5 hk5 hl5)
    | (refine wpList_store_row rfl 81 (.tmp 16) (.tmp 57) rfl w5.heap.size #[.int .i64 s0, .int .i64 s1, .int .i64 s2, .int .i64 s3, .int .i64 d0, .int .i64 d1, .slice X5 n1 x5, .int .i64 d2, .int .i64 d3, .slice Y5 n2 y5] rfl rfl 81 #[.int .i64 0, .int .i64 0, .int .i64 0, .int .i64 0, .int .i64 0, .int .i64 0, .slice none 0 0, .int .i64 0, .int .i64 0, .slice none 0 0] (Blk.new w5 _ _) (by kernel_rfl) rfl (by simp [Value.oneCell']) ?_; obtain ⟨W5, hW5⟩ : ∃ W, W = ((w5.alloc (.cells #[.int .i64 0, .int .i64 0, .int .i64 0, .int .i64 0, .int .i64 0, .int .i64 0, .slice none 0 0, .int .i64 0, .int .i64 0, .slice none 0 0] 81)).setRow w5.heap.size #[.int .i64 s0, .int .i64 s1, .int .i64 s2, .int .i64 s3, .int .i64 d0, .int .i64 d1, .slice X5 n1 x5, .int .i64 d2, .int .i64 d3, .slice Y5 n2 y5]) := ⟨_, rfl⟩; rw [← hW5]; obtain ⟨G5, N5⟩ := boxes1 _ _ _ _ hW5; have E5 := bel_on D5 G5; have J5 := Lib.hid (bel_on HB5.out G5); have M5 := Lib.hid (K5.out.below G5); have ML5 := Lib.hid (L5.out.below G5); have NN5 := Lib.hid N5; clear hW5 N5)
    | (refine wpList_load_row rfl 81 (.tmp 15) rfl w4.heap.size rfl 81 #[.int .i64 s0, .int .i64 s1, .int .i64 s2, .int .i64 s3, .int .i64 d0, .int .i64 d1, .slice X4 n1 x4, .int .i64 d2, .int .i64 d3, .slice Y4 n2 y4] (0, 0) _ (NN4.out.below' J5.out) Try.underlying81 rfl (by kernel_rfl) ?_)
    | (refine wpList_load_row rfl 81 (.tmp 16) rfl w5.heap.size rfl 81 #[.int .i64 s0, .int .i64 s1, .int .i64 s2, .int .i64 s3, .int .i64 d0, .int .i64 d1, .slice X5 n1 x5, .int .i64 d2, .int .i64 d3, .slice Y5 n2 y5] (0, 0) _ NN5.out Try.underlying81 rfl (by kernel_rfl) ?_)
    | (go_at_call 38; (with_reducible refine (HSA.out _ X4 x4 Y4 y4 X5 x5 Y5 y5 ((M4.out.below J5.out).kr HYX.out.1.1 (by have := HYX.out.1.2; have := HN1.out; omega)) ((ML4.out.below J5.out).kr HYX.out.2.1 (by have := HYX.out.2.2; have := HN2.out; omega)) (M5.out.kr HYX.out.1.1 (by have := HYX.out.1.2; have := HN1.out; omega)) (ML5.out.kr HYX.out.2.1 (by have := HYX.out.2.2; have := HN2.out; omega))).mono ?_); rintro e w6 ⟨rfl, hb6⟩; have D6 := bel_on E5 hb6; clear hb6)
    | (refine wpList_load_row rfl 23 (.tmp 6) rfl w.heap.size rfl 23 (cellsB root).toArray (0, 0) _ (BR.out _ (by assumption)) under_key rfl (cellsB_size _ HR.out) ?_)
    | (refine wpList_load_row rfl 81 (.tmp 7) rfl (w.heap.size + 1) rfl 81 #[.int .i64 r1, .int .i64 q1, .int .i64 r2, .int .i64 q2, .int .i64 a, .int .i64 b, .slice A2 m2 c2, .int .i64 a2, .int .i64 b2, .slice A3 m3 c3] (0, 0) _ (BA.out _ (by assumption)) Try.underlying81 rfl (by kernel_rfl) ?_)
    | (go_at_call 39; (with_reducible refine (H5.out _ (bel_on b0 D6)).mono ?_); rintro e w7 ⟨rfl, hb7⟩; have D7 := bel_on D6 hb7; clear hb7)
    | (go_at_call 40; (with_reducible refine (H6.out _ (bel_on b0 D7)).mono ?_); rintro e w8 ⟨rfl, hb8⟩; have D8 := bel_on D7 hb8; clear hb8))
  go_ret
  exact ⟨rfl, bel_on b0 D8⟩

theorem auditOnOff_walk (A : Option Addr) (c : Nat) (es : List Ent) (u : Int) (root : List UInt8) (r1 q1 r2 q2 a b : Int) (A2 : Option Addr) (c2 : Nat) (P : List (List UInt8)) (a2 b2 : Int) (A3 : Option Addr) (c3 : Nat) (R : List (List UInt8)) (w : World)
    (hes : ER w A c es) (_ : c * 16 ≤ 140737488351232) (_ : -9223372036854775808 ≤ u) (_ : u ≤ 9223372036854775807) (hr : root.length = 16) (hP : KR w A2 c2 P) (hR : KR w A3 c3 R) :
    Calls Try.prog 6 #[.slice A es.length c, .int .i64 u, .agg (cellsB root).toArray, .agg #[.int .i64 r1, .int .i64 q1, .int .i64 r2, .int .i64 q2, .int .i64 a, .int .i64 b, .slice A2 P.length c2, .int .i64 a2, .int .i64 b2, .slice A3 R.length c3]] w fun e w' => e = .returned (.bool true) ∧ Below w.heap.size w w' :=
  auditOnOff_in A c es u root r1 q1 r2 q2 a b A2 c2 P a2 b2 A3 c3 R w hes hr hP hR
end Go.Proofs.Ytinpiodfpnbllaa
