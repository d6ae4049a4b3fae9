/-
  Lemmas and contracts, joined.
-/
import Derived.Test.YtinpiodfpnbllaaGreatDoorAuB5
import Derived.Test.YtinpiodfpnbllaaGreatDoorAuB4
import Derived.Test.YtinpiodfpnbllaaGreatDoorAuO1
import Derived.Test.YtinpiodfpnbllaaGreatDoorAuK1
set_option linter.unusedSimpArgs false
set_option linter.unusedVariables false
set_option linter.unnecessarySimpa false
/- Entries, lists of entries and proofs of absence among a law's arguments, opened. -/
namespace Go.Proofs.YtinpiodfpnbllaaGreatDoor
open Go.ChangeShapes Go.WideShapes Go.ChangeAt Go.RowKit Go.Deep
set_option linter.unusedVariables false

theorem cells_ent : Tryz.prog.cellsOf 98 = 2 := by kernel_rfl
theorem bytes_ent : Tryz.prog.bytesOf 98 = 16 := by kernel_rfl
theorem cells_proof : Tryz.prog.cellsOf 27 = 3 := by kernel_rfl
theorem entry_of_trod {H : Type} {enc : TypeId × Value → H} {W : World} {fuel : Nat} {cs : List Value} {x : DataW H × List MemPlace} (h : DataW.trod enc Tryz.prog W 0 (fun _ => true) true fuel 98 cs = some x) : ∃ e : Ent, cs = cellsX e := by
  obtain ⟨y0, y1, n, rfl, hl, h0, h1⟩ := trod_struct2 Tryz.underlying98 h
  dsimp only at h0 h1
  rw [cells_i64] at h0 h1
  rw [cells_ent] at hl
  obtain ⟨a, e0, _⟩ := int_of_trod h0
  obtain ⟨b, e1, _⟩ := int_of_trod h1
  refine ⟨(a, b), ?_⟩
  match cs, hl with
  | [u, v], _ =>
    simp only [List.drop_zero, List.take_succ_cons, List.take_zero, List.drop_succ_cons, List.cons.injEq, and_true] at e0 e1
    rw [e0, e1]; rfl
theorem ents_of_trod {H : Type} {enc : TypeId × Value → H} {W : World} {fuel : Nat} {t : TypeId} {cs : List Value} {x : DataW H × List MemPlace} (ht : Tryz.prog.underlying t = some (.slice 98)) (h : DataW.trod enc Tryz.prog W 0 (fun _ => true) true fuel t cs = some x)
    (hw : ∀ n ∈ x.1.weights Tryz.prog t, n ≤ reachBytes) : ∃ A c es, cs = [.slice A (List.length es) c] ∧ ER W A c es ∧ c * 16 ≤ 140737488351232 := by
  obtain ⟨A, len, cap, m, C, D, rfl, hle, hcap, hby, hcell, hel⟩ := slice_of_trod ht cells_ent (by omega) bytes_ent h hw
  obtain ⟨U, hU⟩ := choose_lt (α := Ent) (p := fun i e => C i = cellsX e) (fun i hi => entry_of_trod (hel i hi).2.1)
  have hrd := rd_of_cells (by_ := 16) hle hcap (by omega) (fun i hi => (hel i hi).1) hcell
  have hfl : (List.range len).flatMap C = cellsE ((List.range len).map U) := by
    unfold cellsE
    rw [List.flatMap_def, List.map_congr_left (g := fun i => cellsX (U i)) (fun i hi => hU i (List.mem_range.1 hi)), ← List.flatMap_def]
    generalize List.range len = l
    induction l with
    | nil => rfl
    | cons a l ih => simp [ih]
  rw [hfl] at hrd
  exact ⟨A, cap, (List.range len).map U, by simp, by unfold ER; simpa using hrd, hby⟩
theorem absence_of_trod {H : Type} {enc : TypeId × Value → H} {W : World} {fuel : Nat} {cs : List Value} {x : DataW H × List MemPlace} (h : DataW.trod enc Tryz.prog W 0 (fun _ => true) true fuel 100 cs = some x)
    (hw : ∀ n ∈ x.1.weights Tryz.prog 100, n ≤ reachBytes) : ∃ r0 q0 r1 q1 a b A c P a2 b2 A2 c2 R, cs = [.int .i64 r0, .int .i64 q0, .int .i64 r1, .int .i64 q1, .int .i64 a, .int .i64 b, .slice A (List.length P) c, .int .i64 a2, .int .i64 b2, .slice A2 (List.length R) c2] ∧ KR W A c P ∧ KR W A2 c2 R := by
  obtain ⟨y0, y1, y2, y3, n, rfl, hl, h0, h1, h2, h3⟩ := Go.Joins.trod_struct4 Tryz.underlying100 h
  have hw' : ∀ n ∈ DataW.weightsEach Tryz.prog [98, 98, 27, 27] [y0.1, y1.1, y2.1, y3.1], n ≤ reachBytes := by simpa [DataW.weights, Tryz.underlying100] using hw
  dsimp only at h0 h1 h2 h3
  rw [cells_ent] at h0 h1
  rw [cells_proof] at h2 h3
  rw [show Tryz.prog.cellsOf 100 = 10 from by kernel_rfl] at hl
  obtain ⟨lo, e0⟩ := entry_of_trod h0
  obtain ⟨hi, e1⟩ := entry_of_trod h1
  obtain ⟨a, b, A, c, P, e2, hk⟩ := proof_of_trod h2 (fun m hm => hw' m (DataW.weights_mem_each (j := 2) rfl rfl m hm))
  obtain ⟨a2, b2, A2, c2, R, e3, hk2⟩ := proof_of_trod h3 (fun m hm => hw' m (DataW.weights_mem_each (j := 3) rfl rfl m hm))
  refine ⟨lo.1, lo.2, hi.1, hi.2, a, b, A, c, P, a2, b2, A2, c2, R, ?_, hk, hk2⟩
  match cs, hl with
  | [x0, x1, x2, x3, x4, x5, x6, x7, x8, x9], _ =>
    simp only [cellsX, List.drop_zero, List.take_succ_cons, List.take_zero, List.drop_succ_cons, List.cons.injEq, and_true] at e0 e1 e2 e3
    rw [e0.1, e0.2, e1.1, e1.2, e2.1, e2.2.1, e2.2.2, e3.1, e3.2.1, e3.2.2]
set_option maxRecDepth 100000 in
theorem open_entries {H : Type} {enc : TypeId × Value → H} {W : World} {b0 : Nat} {v : Value} {d : DataW H} {ps : List MemPlace} (hval : Value.okWide Tryz.prog W .any b0 56 v) (hd : DataW.Trod enc Tryz.prog W 0 (fun _ => true) true 56 v d ps)
    (hw : ∀ n ∈ d.weights Tryz.prog 56, n ≤ reachBytes) : ∃ A c z, v = .slice A (List.length z) c ∧ ER W A c z ∧ c * 16 ≤ 140737488351232 := by
  obtain ⟨fuel, hf⟩ := hd
  obtain ⟨A, c, z, e, h, hc⟩ := ents_of_trod Tryz.underlying56 hf hw
  exact ⟨A, c, z, slice_val Tryz.underlying56 hval e, h, hc⟩
set_option maxRecDepth 100000 in
theorem open_absence {H : Type} {enc : TypeId × Value → H} {W : World} {b0 : Nat} {v : Value} {d : DataW H} {ps : List MemPlace} (hval : Value.okWide Tryz.prog W .any b0 100 v) (hd : DataW.Trod enc Tryz.prog W 0 (fun _ => true) true 100 v d ps)
    (hw : ∀ n ∈ d.weights Tryz.prog 100, n ≤ reachBytes) : ∃ r0 q0 r1 q1 a b A c P a2 b2 A2 c2 R, v = .agg #[.int .i64 r0, .int .i64 q0, .int .i64 r1, .int .i64 q1, .int .i64 a, .int .i64 b, .slice A (List.length P) c, .int .i64 a2, .int .i64 b2, .slice A2 (List.length R) c2] ∧ KR W A c P ∧ KR W A2 c2 R := by
  obtain ⟨cs, rfl, hsz⟩ := okWide_struct Tryz.underlying100 hval
  obtain ⟨fuel, hf⟩ := hd
  obtain ⟨r0, q0, r1, q1, a, b, A, c, P, a2, b2, A2, c2, R, e, h1, h2⟩ := absence_of_trod hf hw
  refine ⟨r0, q0, r1, q1, a, b, A, c, P, a2, b2, A2, c2, R, ?_, h1, h2⟩
  have : cs = cs.toList.toArray := by simp
  rw [this]
  exact congrArg (fun l => Value.agg (List.toArray l)) e
end Go.Proofs.YtinpiodfpnbllaaGreatDoor

/- The law AuditAbsent: the walk. -/
namespace Go.Proofs.YtinpiodfpnbllaaGreatDoor
open Go.RowKit
set_option linter.unusedVariables false
set_option linter.unusedSimpArgs false

theorem lastK_short_ {p : List (List UInt8)} (h : ∀ k ∈ p, k.length = 16) : (lastK p).length ≤ 16 := by
  rcases Nat.eq_zero_or_pos p.length with h0 | h0
  · rw [List.eq_nil_of_length_eq_zero h0]; simp [lastK]
  · rw [h _ (lastK_mem h0)]; omega
theorem climbS_short_ (leaf : List UInt8) (hl : leaf.length = 16) : ∀ (n i : Nat) (path : List (List UInt8)), (∀ k ∈ path, k.length = 16) → ∀ t ∈ (climbS leaf n i path).2, t.length ≤ 1000 := by
  intro n
  induction n using Nat.strongRecOn with
  | _ n ih =>
    intro i path hp t ht
    have hlast := lastK_short_ hp
    have hin : ∀ k ∈ initK path, k.length = 16 := fun k hk => hp k (initK_mem hk)
    rcases Nat.lt_or_ge n 2 with h2 | h2
    · rw [climbS_one _ (by omega), List.mem_singleton] at ht
      subst ht
      simp [leafT, hl]
    have s1 := splitS_lt h2
    have s2 := splitS_pos n
    by_cases hi : i < splitS n
    · rw [climbS_low _ _ h2 hi] at ht
      rcases List.mem_append.1 ht with ht | ht
      · exact ih (splitS n) s1 i _ hin t ht
      · rw [List.mem_singleton.1 ht]
        have := climbS_length leaf (splitS n) i (initK path)
        simp only [nodeT, List.length_cons, List.length_append]; omega
    · rw [climbS_high _ _ h2 hi] at ht
      rcases List.mem_append.1 ht with ht | ht
      · exact ih (n - splitS n) (by omega) _ _ hin t ht
      · rw [List.mem_singleton.1 ht]
        have := climbS_length leaf (n - splitS n) (i - splitS n) (initK path)
        simp only [nodeT, List.length_cons, List.length_append]; omega


set_option maxHeartbeats 4000000 in
set_option maxRecDepth 100000 in
theorem absent_bad (es : List Ent) (A : Option Addr) (c : Nat) (u r0 q0 r1 q1 a b : Int) (P : Option Addr) (d : Nat) (ps : List (List UInt8)) (a2 b2 : Int) (R : Option Addr) (e : Nat) (rs : List (List UInt8)) (w : World) {n m k : Nat} (hn : es.length = n) (hm : ps.length = m) (hk : rs.length = k) (h : ER w A c es) (hp : KR w P d ps) (hr : KR w R e rs) (HA : Hid (∀ W, Below w.heap.size w W → Calls Tryz.prog 25 #[] W fun e w' => e = .returned (.bool true) ∧ Below W.heap.size W w')) (hv : validL es = false) :
    Calls Tryz.prog 14 #[.slice A n c, .int .i64 u, .agg #[.int .i64 r0, .int .i64 q0, .int .i64 r1, .int .i64 q1, .int .i64 a, .int .i64 b, .slice P m d, .int .i64 a2, .int .i64 b2, .slice R k e]] w fun e w' => e = .returned (.bool true) ∧ Below w.heap.size w w' := by
  have HK : Hid (∀ W, Below w.heap.size w W → Calls Tryz.prog 30 #[.slice A n c] W fun e w' => e = .returned (.int .i64 90) ∧ Below W.heap.size W w') := fun W hW => by
    have := checkList_any es A c W hn (h.below hW)
    rwa [hv] at this
  have hnl : (n : Int) ≤ 140737488351232 := by have := h.len; omega
  obtain ⟨W0, hW0⟩ : ∃ W, W = w.alloc (.cells #[.int .i64 r0, .int .i64 q0, .int .i64 r1, .int .i64 q1, .int .i64 a, .int .i64 b, .slice P m d, .int .i64 a2, .int .i64 b2, .slice R k e] 100) := ⟨_, rfl⟩
  have D0 : Hid (Below w.heap.size w W0) := by unfold Hid; rw [hW0]; exact alloc_bel w _
  have Q0 : Hid (Blk W0 w.heap.size 100 #[.int .i64 r0, .int .i64 q0, .int .i64 r1, .int .i64 q1, .int .i64 a, .int .i64 b, .slice P m d, .int .i64 a2, .int .i64 b2, .slice R k e]) := by unfold Hid; rw [hW0]; exact Blk.new w _ _
  have HW0 := Lib.hid hW0
  clear hW0 hn hm hk h hp hr hv
  go_enter Tryz.func14, Tryz.ntmps14
  go_wp2_with (first
    | (go_at_call 25; rw [← HW0.out]; (with_reducible refine (HA.out _ D0.out).mono ?_); rintro e w1 ⟨rfl, hb⟩; have D1 := Lib.hid (bel_on D0.out hb); have Q1 := Lib.hid (Q0.out.below' hb); clear hb)
    | (go_at_call 30; (with_reducible refine (HK.out _ D1.out).mono ?_); rintro e w2 ⟨rfl, hb⟩; have D2 := Lib.hid (bel_on D1.out hb); have Q2 := Lib.hid (Q1.out.below' hb); have c20 : w2.cell? ⟨w.heap.size, 4, none⟩ = some (.int .i64 a) := Q2.out.cell 4; clear hb))
  go_ret
  exact ⟨rfl, D2.out⟩

set_option maxHeartbeats 4000000 in
set_option maxRecDepth 100000 in
theorem absent_other (es : List Ent) (A : Option Addr) (c : Nat) (u r0 q0 r1 q1 a b : Int) (P : Option Addr) (d : Nat) (ps : List (List UInt8)) (a2 b2 : Int) (R : Option Addr) (e : Nat) (rs : List (List UInt8)) (w : World) {n m k : Nat} (hn : es.length = n) (hm : ps.length = m) (hk : rs.length = k) (h : ER w A c es) (hp : KR w P d ps) (hr : KR w R e rs) (HA : Hid (∀ W, Below w.heap.size w W → Calls Tryz.prog 25 #[] W fun e w' => e = .returned (.bool true) ∧ Below W.heap.size W w')) (hv : validL es = true) (hne : ¬ a = (n : Int) + 2) :
    Calls Tryz.prog 14 #[.slice A n c, .int .i64 u, .agg #[.int .i64 r0, .int .i64 q0, .int .i64 r1, .int .i64 q1, .int .i64 a, .int .i64 b, .slice P m d, .int .i64 a2, .int .i64 b2, .slice R k e]] w fun e w' => e = .returned (.bool true) ∧ Below w.heap.size w w' := by
  have HK : Hid (∀ W, Below w.heap.size w W → Calls Tryz.prog 30 #[.slice A n c] W fun e w' => e = .returned (.int .i64 0) ∧ Below W.heap.size W w') := fun W hW => by
    have := checkList_any es A c W hn (h.below hW)
    rwa [hv] at this
  have hnl : (n : Int) ≤ 140737488351232 := by have := h.len; omega
  obtain ⟨W0, hW0⟩ : ∃ W, W = w.alloc (.cells #[.int .i64 r0, .int .i64 q0, .int .i64 r1, .int .i64 q1, .int .i64 a, .int .i64 b, .slice P m d, .int .i64 a2, .int .i64 b2, .slice R k e] 100) := ⟨_, rfl⟩
  have D0 : Hid (Below w.heap.size w W0) := by unfold Hid; rw [hW0]; exact alloc_bel w _
  have Q0 : Hid (Blk W0 w.heap.size 100 #[.int .i64 r0, .int .i64 q0, .int .i64 r1, .int .i64 q1, .int .i64 a, .int .i64 b, .slice P m d, .int .i64 a2, .int .i64 b2, .slice R k e]) := by unfold Hid; rw [hW0]; exact Blk.new w _ _
  have HW0 := Lib.hid hW0
  have hlen := validL_length hv
  have hwr : IntKind.i64.wrap ((n : Int) + 2) = (n : Int) + 2 := by rw [IntKind.wrap_i64]; omega
  have hb5 : (a != (n : Int) + 2) = true := by simpa using hne
  clear hW0 hn hm hk h hp hr hv hlen
  go_enter Tryz.func14, Tryz.ntmps14
  go_wp2_with (first
    | (go_at_call 25; rw [← HW0.out]; (with_reducible refine (HA.out _ D0.out).mono ?_); rintro e w1 ⟨rfl, hb⟩; have D1 := Lib.hid (bel_on D0.out hb); have Q1 := Lib.hid (Q0.out.below' hb); clear hb)
    | (go_at_call 30; (with_reducible refine (HK.out _ D1.out).mono ?_); rintro e w2 ⟨rfl, hb⟩; have D2 := Lib.hid (bel_on D1.out hb); have Q2 := Lib.hid (Q1.out.below' hb); have c20 : w2.cell? ⟨w.heap.size, 4, none⟩ = some (.int .i64 a) := Q2.out.cell 4; clear hb))
  all_goals first | (exfalso; simp_all; done) | (go_ret; exact ⟨rfl, D2.out⟩)

set_option maxHeartbeats 4000000 in
set_option maxRecDepth 100000 in
theorem absent_no (es : List Ent) (A : Option Addr) (c : Nat) (u r0 q0 r1 q1 a b : Int) (P : Option Addr) (d : Nat) (ps : List (List UInt8)) (a2 b2 : Int) (R : Option Addr) (e : Nat) (rs : List (List UInt8)) (w : World) {n m k : Nat} (hn : es.length = n) (hm : ps.length = m) (hk : rs.length = k) (h : ER w A c es) (hp : KR w P d ps) (hr : KR w R e rs) (HA : Hid (∀ W, Below w.heap.size w W → Calls Tryz.prog 25 #[] W fun e w' => e = .returned (.bool true) ∧ Below W.heap.size W w')) (hv : validL es = true) (e0 : Int) (he0 : e0 = 0 ∨ e0 = 2 ∨ e0 = 8) (hver : voS (rootS (leavesE es)) u (r0, q0) (r1, q1) ((n : Int) + 2) b ps a2 b2 rs = (false, e0)) :
    Calls Tryz.prog 14 #[.slice A n c, .int .i64 u, .agg #[.int .i64 r0, .int .i64 q0, .int .i64 r1, .int .i64 q1, .int .i64 ((n : Int) + 2), .int .i64 b, .slice P m d, .int .i64 a2, .int .i64 b2, .slice R k e]] w fun e w' => e = .returned (.bool true) ∧ Below w.heap.size w w' := by
  have HK : Hid (∀ W, Below w.heap.size w W → Calls Tryz.prog 30 #[.slice A n c] W fun e w' => e = .returned (.int .i64 0) ∧ Below W.heap.size W w') := fun W hW => by
    have := checkList_any es A c W hn (h.below hW)
    rwa [hv] at this
  have hlen := validL_length hv
  have hn64 : (n : Int) ≤ 64 := by omega
  have hwr : IntKind.i64.wrap ((n : Int) + 2) = (n : Int) + 2 := by rw [IntKind.wrap_i64]; omega
  have HL : Hid (∀ W, Below w.heap.size w W → Calls Tryz.prog 53 #[.slice A n c] W fun e w' => e = .returned (.tuple #[.agg (cellsB (rootS (leavesE es))).toArray, .int .i64 0]) ∧ Below W.heap.size W w') := fun W hW => by
    have := ListRoot_any es A c W hn (h.below hW)
    have e1 : lrS es = (rootS (leavesE es), 0) := by unfold lrS; rw [if_neg (by rw [hv]; simp)]
    rwa [e1] at this
  have HRL : Hid ((rootS (leavesE es)).length = 16) := rootS_length _
  have HU : Hid (∀ W, Below w.heap.size w W → Calls Tryz.prog 32 #[.slice A n c, .int .i64 u] W fun e w' => e = .returned (.int .i64 (untilS es u)) ∧ Below W.heap.size W w') := fun W hW => lawUntil_any es u A c W hn (h.below hW)
  have HVO : Hid (∀ W, Below w.heap.size w W → Calls Tryz.prog 54 #[.agg (cellsB (rootS (leavesE es))).toArray, .int .i64 u, .agg #[.int .i64 r0, .int .i64 q0, .int .i64 r1, .int .i64 q1, .int .i64 ((n : Int) + 2), .int .i64 b, .slice P m d, .int .i64 a2, .int .i64 b2, .slice R k e]] W fun e w' => e = .returned (.tuple #[.bool false, .int .i64 e0]) ∧ Below W.heap.size W w') := fun W hW => by
    have := VerifyOff_any (rootS (leavesE es)) u r0 q0 r1 q1 ((n : Int) + 2) b a2 b2 ps rs P R d e W (rootS_length _) hm hk (hp.below hW) (hr.below hW)
    rwa [hver] at this
  have hnl : (n : Int) ≤ 140737488351232 := by have := h.len; omega
  obtain ⟨W0, hW0⟩ : ∃ W, W = w.alloc (.cells #[.int .i64 r0, .int .i64 q0, .int .i64 r1, .int .i64 q1, .int .i64 ((n : Int) + 2), .int .i64 b, .slice P m d, .int .i64 a2, .int .i64 b2, .slice R k e] 100) := ⟨_, rfl⟩
  have D0 : Hid (Below w.heap.size w W0) := by unfold Hid; rw [hW0]; exact alloc_bel w _
  have Q0 : Hid (Blk W0 w.heap.size 100 #[.int .i64 r0, .int .i64 q0, .int .i64 r1, .int .i64 q1, .int .i64 ((n : Int) + 2), .int .i64 b, .slice P m d, .int .i64 a2, .int .i64 b2, .slice R k e]) := by unfold Hid; rw [hW0]; exact Blk.new w _ _
  have HW0 := Lib.hid hW0
  clear hW0 hn hm hk h hp hr hv hlen hver
  generalize rootS (leavesE es) = X at HL HRL HVO
  rcases he0 with rfl | rfl | rfl
  all_goals
    go_enter Tryz.func14, Tryz.ntmps14
    go_wp2_with (first
      | (go_at_call 25; rw [← HW0.out]; (with_reducible refine (HA.out _ D0.out).mono ?_); rintro e w1 ⟨rfl, hb⟩; have D1 := Lib.hid (bel_on D0.out hb); have Q1 := Lib.hid (Q0.out.below' hb); clear hb)
      | (go_at_call 30; (with_reducible refine (HK.out _ D1.out).mono ?_); rintro e w2 ⟨rfl, hb⟩; have D2 := Lib.hid (bel_on D1.out hb); have Q2 := Lib.hid (Q1.out.below' hb); have c20 : w2.cell? ⟨w.heap.size, 4, none⟩ = some (.int .i64 ((n : Int) + 2)) := Q2.out.cell 4; clear hb)
      | (go_at_call 53; (with_reducible refine (HL.out _ D2.out).mono ?_); rintro e w3 ⟨rfl, hb⟩; have D3 := Lib.hid (bel_on D2.out hb); have Q3 := Lib.hid (Q2.out.below' hb); clear hb c20)
      | ((first | rw [zero16] | skip); refine wpList_store_row rfl 24 (.tmp 8) (.tmp 42) rfl w3.heap.size (cellsB X).toArray rfl rfl 24 (cellsB zeroK).toArray (Blk.new w3 _ _) (cellsB_size _ HRL.out) (cellsB_sizes _ _ zeroK_length HRL.out) (cellsB_all _) ?_; obtain ⟨w4, hV⟩ : ∃ W, W = (w3.alloc (.cells (cellsB zeroK).toArray 24)).setRow w3.heap.size (cellsB X).toArray := ⟨_, rfl⟩; rw [← hV]; obtain ⟨hb, nb⟩ := keybox2_ _ _ _ _ hV; have D4 := Lib.hid (bel_on D3.out hb); have Q4 := Lib.hid (Q3.out.below' hb); have X4 := Lib.hid nb; clear hV hb nb)
      | (refine wpList_load_row rfl 24 (.tmp 8) rfl w3.heap.size rfl 24 (cellsB X).toArray (0, 0) _ X4.out under_key rfl (cellsB_size _ HRL.out) ?_)
      | (refine wpList_load_row rfl 100 (.tmp 5) rfl w.heap.size rfl 100 #[.int .i64 r0, .int .i64 q0, .int .i64 r1, .int .i64 q1, .int .i64 ((n : Int) + 2), .int .i64 b, .slice P m d, .int .i64 a2, .int .i64 b2, .slice R k e] (0, 0) _ Q4.out Tryz.underlying100 rfl (by kernel_rfl) ?_)
      | (go_at_call 54; (with_reducible refine (HVO.out _ D4.out).mono ?_); rintro e w5 ⟨rfl, hb⟩; have D5 := Lib.hid (bel_on D4.out hb); have Q5 := Lib.hid (Q4.out.below' hb); clear hb))
    go_ret
    exact ⟨rfl, D5.out⟩

set_option maxHeartbeats 4000000 in
set_option maxRecDepth 100000 in
theorem absent_off (es : List Ent) (A : Option Addr) (c : Nat) (u r0 q0 r1 q1 a b : Int) (P : Option Addr) (d : Nat) (ps : List (List UInt8)) (a2 b2 : Int) (R : Option Addr) (e : Nat) (rs : List (List UInt8)) (w : World) {n m k : Nat} (hn : es.length = n) (hm : ps.length = m) (hk : rs.length = k) (h : ER w A c es) (hp : KR w P d ps) (hr : KR w R e rs) (HA : Hid (∀ W, Below w.heap.size w W → Calls Tryz.prog 25 #[] W fun e w' => e = .returned (.bool true) ∧ Below W.heap.size W w')) (hv : validL es = true) (hver : voS (rootS (leavesE es)) u (r0, q0) (r1, q1) ((n : Int) + 2) b ps a2 b2 rs = (true, 0)) (hu : untilS es u < 0) :
    Calls Tryz.prog 14 #[.slice A n c, .int .i64 u, .agg #[.int .i64 r0, .int .i64 q0, .int .i64 r1, .int .i64 q1, .int .i64 ((n : Int) + 2), .int .i64 b, .slice P m d, .int .i64 a2, .int .i64 b2, .slice R k e]] w fun e w' => e = .returned (.bool true) ∧ Below w.heap.size w w' := by
  have HK : Hid (∀ W, Below w.heap.size w W → Calls Tryz.prog 30 #[.slice A n c] W fun e w' => e = .returned (.int .i64 0) ∧ Below W.heap.size W w') := fun W hW => by
    have := checkList_any es A c W hn (h.below hW)
    rwa [hv] at this
  have hlen := validL_length hv
  have hn64 : (n : Int) ≤ 64 := by omega
  have hwr : IntKind.i64.wrap ((n : Int) + 2) = (n : Int) + 2 := by rw [IntKind.wrap_i64]; omega
  have HL : Hid (∀ W, Below w.heap.size w W → Calls Tryz.prog 53 #[.slice A n c] W fun e w' => e = .returned (.tuple #[.agg (cellsB (rootS (leavesE es))).toArray, .int .i64 0]) ∧ Below W.heap.size W w') := fun W hW => by
    have := ListRoot_any es A c W hn (h.below hW)
    have e1 : lrS es = (rootS (leavesE es), 0) := by unfold lrS; rw [if_neg (by rw [hv]; simp)]
    rwa [e1] at this
  have HRL : Hid ((rootS (leavesE es)).length = 16) := rootS_length _
  have HU : Hid (∀ W, Below w.heap.size w W → Calls Tryz.prog 32 #[.slice A n c, .int .i64 u] W fun e w' => e = .returned (.int .i64 (untilS es u)) ∧ Below W.heap.size W w') := fun W hW => lawUntil_any es u A c W hn (h.below hW)
  have HVO : Hid (∀ W, Below w.heap.size w W → Calls Tryz.prog 54 #[.agg (cellsB (rootS (leavesE es))).toArray, .int .i64 u, .agg #[.int .i64 r0, .int .i64 q0, .int .i64 r1, .int .i64 q1, .int .i64 ((n : Int) + 2), .int .i64 b, .slice P m d, .int .i64 a2, .int .i64 b2, .slice R k e]] W fun e w' => e = .returned (.tuple #[.bool true, .int .i64 0]) ∧ Below W.heap.size W w') := fun W hW => by
    have := VerifyOff_any (rootS (leavesE es)) u r0 q0 r1 q1 ((n : Int) + 2) b a2 b2 ps rs P R d e W (rootS_length _) hm hk (hp.below hW) (hr.below hW)
    rwa [hver] at this
  have hnl : (n : Int) ≤ 140737488351232 := by have := h.len; omega
  obtain ⟨W0, hW0⟩ : ∃ W, W = w.alloc (.cells #[.int .i64 r0, .int .i64 q0, .int .i64 r1, .int .i64 q1, .int .i64 ((n : Int) + 2), .int .i64 b, .slice P m d, .int .i64 a2, .int .i64 b2, .slice R k e] 100) := ⟨_, rfl⟩
  have D0 : Hid (Below w.heap.size w W0) := by unfold Hid; rw [hW0]; exact alloc_bel w _
  have Q0 : Hid (Blk W0 w.heap.size 100 #[.int .i64 r0, .int .i64 q0, .int .i64 r1, .int .i64 q1, .int .i64 ((n : Int) + 2), .int .i64 b, .slice P m d, .int .i64 a2, .int .i64 b2, .slice R k e]) := by unfold Hid; rw [hW0]; exact Blk.new w _ _
  have HW0 := Lib.hid hW0
  clear hW0 hn hm hk h hp hr hv hlen hver
  generalize rootS (leavesE es) = X at HL HRL HVO
  generalize untilS es u = t at HU hu
  go_enter Tryz.func14, Tryz.ntmps14
  go_wp2_with (first
    | (go_at_call 25; rw [← HW0.out]; (with_reducible refine (HA.out _ D0.out).mono ?_); rintro e w1 ⟨rfl, hb⟩; have D1 := Lib.hid (bel_on D0.out hb); have Q1 := Lib.hid (Q0.out.below' hb); clear hb)
    | (go_at_call 30; (with_reducible refine (HK.out _ D1.out).mono ?_); rintro e w2 ⟨rfl, hb⟩; have D2 := Lib.hid (bel_on D1.out hb); have Q2 := Lib.hid (Q1.out.below' hb); have c20 : w2.cell? ⟨w.heap.size, 4, none⟩ = some (.int .i64 ((n : Int) + 2)) := Q2.out.cell 4; clear hb)
    | (go_at_call 53; (with_reducible refine (HL.out _ D2.out).mono ?_); rintro e w3 ⟨rfl, hb⟩; have D3 := Lib.hid (bel_on D2.out hb); have Q3 := Lib.hid (Q2.out.below' hb); clear hb c20)
    | ((first | rw [zero16] | skip); refine wpList_store_row rfl 24 (.tmp 8) (.tmp 42) rfl w3.heap.size (cellsB X).toArray rfl rfl 24 (cellsB zeroK).toArray (Blk.new w3 _ _) (cellsB_size _ HRL.out) (cellsB_sizes _ _ zeroK_length HRL.out) (cellsB_all _) ?_; obtain ⟨w4, hV⟩ : ∃ W, W = (w3.alloc (.cells (cellsB zeroK).toArray 24)).setRow w3.heap.size (cellsB X).toArray := ⟨_, rfl⟩; rw [← hV]; obtain ⟨hb, nb⟩ := keybox2_ _ _ _ _ hV; have D4 := Lib.hid (bel_on D3.out hb); have Q4 := Lib.hid (Q3.out.below' hb); have X4 := Lib.hid nb; clear hV hb nb)
    | (refine wpList_load_row rfl 24 (.tmp 8) rfl w3.heap.size rfl 24 (cellsB X).toArray (0, 0) _ X4.out under_key rfl (cellsB_size _ HRL.out) ?_)
    | (refine wpList_load_row rfl 100 (.tmp 5) rfl w.heap.size rfl 100 #[.int .i64 r0, .int .i64 q0, .int .i64 r1, .int .i64 q1, .int .i64 ((n : Int) + 2), .int .i64 b, .slice P m d, .int .i64 a2, .int .i64 b2, .slice R k e] (0, 0) _ Q4.out Tryz.underlying100 rfl (by kernel_rfl) ?_)
    | (go_at_call 54; (with_reducible refine (HVO.out _ D4.out).mono ?_); rintro e w5 ⟨rfl, hb⟩; have D5 := Lib.hid (bel_on D4.out hb); have Q5 := Lib.hid (Q4.out.below' hb); clear hb)
    | (go_at_call 32; (with_reducible refine (HU.out _ D5.out).mono ?_); rintro e w6 ⟨rfl, hb⟩; have D6 := Lib.hid (bel_on D5.out hb); have Q6 := Lib.hid (Q5.out.below' hb); clear hb))
  all_goals first | omega | (go_ret; exact ⟨rfl, D6.out⟩)

set_option maxHeartbeats 8000000 in
set_option maxRecDepth 100000 in
theorem absent_clash (es : List Ent) (A : Option Addr) (c : Nat) (u r0 q0 r1 q1 a b : Int) (P : Option Addr) (d : Nat) (ps : List (List UInt8)) (a2 b2 : Int) (R : Option Addr) (e : Nat) (rs : List (List UInt8)) (w : World) {n m k : Nat} (hn : es.length = n) (hm : ps.length = m) (hk : rs.length = k) (h : ER w A c es) (hp : KR w P d ps) (hr : KR w R e rs) (HA : Hid (∀ W, Below w.heap.size w W → Calls Tryz.prog 25 #[] W fun e w' => e = .returned (.bool true) ∧ Below W.heap.size W w')) (hv : validL es = true) (j : Nat) (hbj : b = (j : Int)) (hok : okV (r0, q0) (r1, q1) ((n : Int) + 2) b m a2 b2 k = true) (hver : voS (rootS (leavesE es)) u (r0, q0) (r1, q1) ((n : Int) + 2) b ps a2 b2 rs = (true, 0)) (hu : 0 ≤ untilS es u) (hC : Clash (textsS (leavesE es) ++ ((climbS (leafE (r0, q0)) (n + 2) b.toNat ps).2 ++ (climbS (leafE (r1, q1)) a2.toNat b2.toNat rs).2))) :
    Calls Tryz.prog 14 #[.slice A n c, .int .i64 u, .agg #[.int .i64 r0, .int .i64 q0, .int .i64 r1, .int .i64 q1, .int .i64 ((n : Int) + 2), .int .i64 b, .slice P m d, .int .i64 a2, .int .i64 b2, .slice R k e]] w fun e w' => e = .returned (.bool true) ∧ Below w.heap.size w w' := by
  have HK : Hid (∀ W, Below w.heap.size w W → Calls Tryz.prog 30 #[.slice A n c] W fun e w' => e = .returned (.int .i64 0) ∧ Below W.heap.size W w') := fun W hW => by
    have := checkList_any es A c W hn (h.below hW)
    rwa [hv] at this
  have hlen := validL_length hv
  have hn64 : (n : Int) ≤ 64 := by omega
  have hwr : IntKind.i64.wrap ((n : Int) + 2) = (n : Int) + 2 := by rw [IntKind.wrap_i64]; omega
  have HL : Hid (∀ W, Below w.heap.size w W → Calls Tryz.prog 53 #[.slice A n c] W fun e w' => e = .returned (.tuple #[.agg (cellsB (rootS (leavesE es))).toArray, .int .i64 0]) ∧ Below W.heap.size W w') := fun W hW => by
    have := ListRoot_any es A c W hn (h.below hW)
    have e1 : lrS es = (rootS (leavesE es), 0) := by unfold lrS; rw [if_neg (by rw [hv]; simp)]
    rwa [e1] at this
  have HRL : Hid ((rootS (leavesE es)).length = 16) := rootS_length _
  have HU : Hid (∀ W, Below w.heap.size w W → Calls Tryz.prog 32 #[.slice A n c, .int .i64 u] W fun e w' => e = .returned (.int .i64 (untilS es u)) ∧ Below W.heap.size W w') := fun W hW => lawUntil_any es u A c W hn (h.below hW)
  have HVO : Hid (∀ W, Below w.heap.size w W → Calls Tryz.prog 54 #[.agg (cellsB (rootS (leavesE es))).toArray, .int .i64 u, .agg #[.int .i64 r0, .int .i64 q0, .int .i64 r1, .int .i64 q1, .int .i64 ((n : Int) + 2), .int .i64 b, .slice P m d, .int .i64 a2, .int .i64 b2, .slice R k e]] W fun e w' => e = .returned (.tuple #[.bool true, .int .i64 0]) ∧ Below W.heap.size W w') := fun W hW => by
    have := VerifyOff_any (rootS (leavesE es)) u r0 q0 r1 q1 ((n : Int) + 2) b a2 b2 ps rs P R d e W (rootS_length _) hm hk (hp.below hW) (hr.below hW)
    rwa [hver] at this
  obtain ⟨ok1, ok2, ok3, ok4⟩ := okV_iff.1 hok
  have f1 := fitsB_iff.1 ok3
  have f2 := fitsB_iff.1 ok4
  have hL1 : Hid (∀ W, Calls Tryz.prog 55 #[.agg #[.int .i64 r0, .int .i64 q0]] W fun e w' => e = .returned (.tuple #[.agg (cellsB (leafE (r0, q0))).toArray, .int .i64 0]) ∧ Below W.heap.size W w') := fun W => by
    have := Leaf_any r0 q0 W
    have e1 : lfS (r0, q0) = (leafE (r0, q0), 0) := by unfold lfS; rw [if_pos ok1]
    rwa [e1] at this
  have hL2 : Hid (∀ W, Calls Tryz.prog 55 #[.agg #[.int .i64 r1, .int .i64 q1]] W fun e w' => e = .returned (.tuple #[.agg (cellsB (leafE (r1, q1))).toArray, .int .i64 0]) ∧ Below W.heap.size W w') := fun W => by
    have := Leaf_any r1 q1 W
    have e1 : lfS (r1, q1) = (leafE (r1, q1), 0) := by unfold lfS; rw [if_pos ok2]
    rwa [e1] at this
  have HG1 : Hid ((leafE (r0, q0)).length = 16) := rfl
  have HG2 : Hid ((leafE (r1, q1)).length = 16) := rfl
  have HLE : Hid (∀ x ∈ endedE es, ∀ W, Calls Tryz.prog 55 #[.agg #[.int .i64 x.1, .int .i64 x.2]] W fun e w' => e = .returned (.tuple #[.agg (cellsB (leafE x)).toArray, .int .i64 0]) ∧ Below W.heap.size W w') := fun x hx W => by
    have := Leaf_any x.1 x.2 W
    have e1 : lfS (x.1, x.2) = (leafE x, 0) := by unfold lfS; rw [if_pos (endedE_is hv x hx)]
    rwa [e1] at this
  have hll := leavesE_length es
  have hdl := endedE_length es
  have HST : Hid (∀ i (hi : i < (endedE es).length), (leavesE es).take (i + 1) = (leavesE es).take i ++ [leafE (endedE es)[i]]) := fun i hi => leavesE_step hi
  have HLL : Hid ((leavesE es).length = n + 2) := by unfold Hid; omega
  have HDL : Hid ((endedE es).length = n + 2) := by unfold Hid; omega
  have HL16 : Hid (Keys16 (leavesE es)) := leavesE_16 es
  have HDE : Hid (([(-1, 0)] : List Ent) ++ es ++ [(64, 0)] = endedE es) := rfl
  have HES : Hid ((([(-1, 0)] : List Ent) ++ es).length = 1 + n) := by unfold Hid; simp; omega
  have HEE := Lib.hid h
  have HNN := Lib.hid hn
  have HTX : Hid (∀ W X x, KR W X x (leavesE es) → Calls Tryz.prog 40 #[.slice X (n + 2) x] W fun e w' => (∃ X x n1 rs, e = .returned (.tuple #[.slice X n1 x, .int .i64 0]) ∧ rs.length = n1 ∧ rs.map BRow.l = textsS (leavesE es) ∧ RR w' X x rs) ∧ Below W.heap.size W w') := fun W X x hx => (Texts_any (leavesE es) X x W (n := n + 2) (by omega) hx).mono fun e w' ⟨⟨X, x, rs, he, hr, hx⟩, hb⟩ => by
    have e1 : textsR (leavesE es) = (textsS (leavesE es), 0) := by unfold textsR; rw [if_neg (by omega)]
    rw [e1] at he hr
    exact ⟨⟨X, x, _, rs, he, rfl, hr, hx⟩, hb⟩
  have HP1 : Hid (∀ W, Below w.heap.size w W → Calls Tryz.prog 41 #[.agg (cellsB (leafE (r0, q0))).toArray, .agg #[.int .i64 ((n : Int) + 2), .int .i64 b, .slice P m d]] W fun e w' => (∃ X x n1 zs, e = .returned (.tuple #[.slice X n1 x, .int .i64 0]) ∧ zs.length = n1 ∧ zs.map BRow.l = (climbS (leafE (r0, q0)) (n + 2) b.toNat ps).2 ∧ RR w' X x zs) ∧ Below W.heap.size W w') := fun W hW => (PathTexts_any (leafE (r0, q0)) ((n : Int) + 2) b ps P d W hm rfl (hp.below hW)).mono fun e w' ⟨⟨X, x, zs, he, hz, hx⟩, hb⟩ => by
    have e1 : ptS (leafE (r0, q0)) ((n : Int) + 2) b ps = ((climbS (leafE (r0, q0)) (n + 2) b.toNat ps).2, 0) := by unfold ptS; rw [hm, if_pos ok3, show ((n : Int) + 2).toNat = n + 2 from by omega]
    rw [e1] at he hz
    exact ⟨⟨X, x, _, zs, he, rfl, hz, hx⟩, hb⟩
  have HP2 : Hid (∀ W, Below w.heap.size w W → Calls Tryz.prog 41 #[.agg (cellsB (leafE (r1, q1))).toArray, .agg #[.int .i64 a2, .int .i64 b2, .slice R k e]] W fun e w' => (∃ X x n1 zs, e = .returned (.tuple #[.slice X n1 x, .int .i64 0]) ∧ zs.length = n1 ∧ zs.map BRow.l = (climbS (leafE (r1, q1)) a2.toNat b2.toNat rs).2 ∧ RR w' X x zs) ∧ Below W.heap.size W w') := fun W hW => (PathTexts_any (leafE (r1, q1)) a2 b2 rs R e W hk rfl (hr.below hW)).mono fun e w' ⟨⟨X, x, zs, he, hz, hx⟩, hb⟩ => by
    have e1 : ptS (leafE (r1, q1)) a2 b2 rs = ((climbS (leafE (r1, q1)) a2.toNat b2.toNat rs).2, 0) := by unfold ptS; rw [hk, if_pos ok4]
    rw [e1] at he hz
    exact ⟨⟨X, x, _, zs, he, rfl, hz, hx⟩, hb⟩
  have b1 := textsS_le (n + 2) (leavesE es) (by omega) (by omega)
  have b3 := climbS_le (leafE (r0, q0)) (n + 2) b.toNat ps (by omega)
  have b4 := climbS_le (leafE (r1, q1)) a2.toNat b2.toNat rs (by have := f2.1; omega)
  have s1 := textsS_short (n + 2) (leavesE es) (by omega) (leavesE_16 es)
  have s2 := climbS_short_ (leafE (r0, q0)) rfl (n + 2) b.toNat ps hp.2
  have s3 := climbS_short_ (leafE (r1, q1)) rfl a2.toNat b2.toNat rs hr.2
  have HCL : Hid (∀ X1 x1 rs1 n1 X2 x2 rs2 n2 X3 x3 rs3 n3 W, rs1.length = n1 → rs2.length = n2 → rs3.length = n3 → rs1.map BRow.l = textsS (leavesE es) → rs2.map BRow.l = (climbS (leafE (r0, q0)) (n + 2) b.toNat ps).2 → rs3.map BRow.l = (climbS (leafE (r1, q1)) a2.toNat b2.toNat rs).2 → RR W X1 x1 rs1 → RR W X2 x2 rs2 → RR W X3 x3 rs3 → Calls Tryz.prog 39 #[.slice (some ⟨W.heap.size, 0, none⟩) 3 3] (W.alloc (.cells #[.slice X1 n1 x1, .slice X2 n2 x2, .slice X3 n3 x3] 71)) fun e w' => e = .returned (.bool true) ∧ Below W.heap.size W w') := fun X1 x1 rs1 n1 X2 x2 rs2 n2 X3 x3 rs3 n3 W l1 l2 l3 t1 t2 t3 r1' r2' r3' => by
    have k1 : rs1.length = (textsS (leavesE es)).length := by rw [← t1, List.length_map]
    have k2 : rs2.length = (climbS (leafE (r0, q0)) (n + 2) b.toNat ps).2.length := by rw [← t2, List.length_map]
    have k3 : rs3.length = (climbS (leafE (r1, q1)) a2.toNat b2.toNat rs).2.length := by rw [← t3, List.length_map]
    have := f2.1
    exact clash3_any X1 x1 rs1 X2 x2 rs2 X3 x3 rs3 W l1 l2 l3 r1' r2' r3' (by omega) (by omega) (by omega) (by rw [t1]; intro t ht; have := s1 t ht; omega) (by rw [t2]; intro t ht; have := s2 t ht; omega) (by rw [t3]; intro t ht; have := s3 t ht; omega) (by rw [t1, t2, t3]; exact hC)
  have hnl : (n : Int) ≤ 140737488351232 := by have := h.len; omega
  obtain ⟨W0, hW0⟩ : ∃ W, W = w.alloc (.cells #[.int .i64 r0, .int .i64 q0, .int .i64 r1, .int .i64 q1, .int .i64 ((n : Int) + 2), .int .i64 b, .slice P m d, .int .i64 a2, .int .i64 b2, .slice R k e] 100) := ⟨_, rfl⟩
  have D0 : Hid (Below w.heap.size w W0) := by unfold Hid; rw [hW0]; exact alloc_bel w _
  have Q0 : Hid (Blk W0 w.heap.size 100 #[.int .i64 r0, .int .i64 q0, .int .i64 r1, .int .i64 q1, .int .i64 ((n : Int) + 2), .int .i64 b, .slice P m d, .int .i64 a2, .int .i64 b2, .slice R k e]) := by unfold Hid; rw [hW0]; exact Blk.new w _ _
  have HW0 := Lib.hid hW0
  clear hW0 hn hm hk h hp hr hv hlen hver hC hbj hok ok1 ok2 ok3 ok4 f1 f2 b1 b3 b4 s1 s2 s3 hll hdl
  generalize (climbS (leafE (r0, q0)) (n + 2) b.toNat ps).2 = tx2 at HP1 HCL
  generalize (climbS (leafE (r1, q1)) a2.toNat b2.toNat rs).2 = tx3 at HP2 HCL
  generalize textsS (leavesE es) = tx1 at HTX HCL
  generalize rootS (leavesE es) = X at HL HRL HVO
  generalize untilS es u = t at HU hu
  generalize leafE (r0, q0) = g1 at hL1 HG1 HP1
  generalize leafE (r1, q1) = g2 at hL2 HG2 HP2
  generalize endedE es = ds at HLE HST HDL HDE
  generalize leavesE es = ls at HST HLL HL16 HTX
  go_enter Tryz.func14, Tryz.ntmps14
  go_wp2_with (first
    | (go_at_call 25; rw [← HW0.out]; (with_reducible refine (HA.out _ D0.out).mono ?_); rintro e w1 ⟨rfl, hb⟩; have D1 := Lib.hid (bel_on D0.out hb); have Q1 := Lib.hid (Q0.out.below' hb); clear hb)
    | (go_at_call 30; (with_reducible refine (HK.out _ D1.out).mono ?_); rintro e w2 ⟨rfl, hb⟩; have D2 := Lib.hid (bel_on D1.out hb); have Q2 := Lib.hid (Q1.out.below' hb); have c20 : w2.cell? ⟨w.heap.size, 4, none⟩ = some (.int .i64 ((n : Int) + 2)) := Q2.out.cell 4; clear hb)
    | (go_at_call 53; (with_reducible refine (HL.out _ D2.out).mono ?_); rintro e w3 ⟨rfl, hb⟩; have D3 := Lib.hid (bel_on D2.out hb); have Q3 := Lib.hid (Q2.out.below' hb); clear hb c20)
    | ((first | rw [zero16] | skip); refine wpList_store_row rfl 24 (.tmp 8) (.tmp 42) rfl w3.heap.size (cellsB X).toArray rfl rfl 24 (cellsB zeroK).toArray (Blk.new w3 _ _) (cellsB_size _ HRL.out) (cellsB_sizes _ _ zeroK_length HRL.out) (cellsB_all _) ?_; obtain ⟨w4, hV⟩ : ∃ W, W = (w3.alloc (.cells (cellsB zeroK).toArray 24)).setRow w3.heap.size (cellsB X).toArray := ⟨_, rfl⟩; rw [← hV]; obtain ⟨hb, nb⟩ := keybox2_ _ _ _ _ hV; have D4 := Lib.hid (bel_on D3.out hb); have Q4 := Lib.hid (Q3.out.below' hb); have X4 := Lib.hid nb; clear hV hb nb)
    | (refine wpList_load_row rfl 24 (.tmp 8) rfl w3.heap.size rfl 24 (cellsB X).toArray (0, 0) _ X4.out under_key rfl (cellsB_size _ HRL.out) ?_)
    | (refine wpList_load_row rfl 100 (.tmp 5) rfl w.heap.size rfl 100 #[.int .i64 r0, .int .i64 q0, .int .i64 r1, .int .i64 q1, .int .i64 ((n : Int) + 2), .int .i64 b, .slice P m d, .int .i64 a2, .int .i64 b2, .slice R k e] (0, 0) _ Q4.out Tryz.underlying100 rfl (by kernel_rfl) ?_)
    | (go_at_call 54; (with_reducible refine (HVO.out _ D4.out).mono ?_); rintro e w5 ⟨rfl, hb⟩; have D5 := Lib.hid (bel_on D4.out hb); have Q5 := Lib.hid (Q4.out.below' hb); clear hb)
    | (go_at_call 32; (with_reducible refine (HU.out _ D5.out).mono ?_); rintro e w6 ⟨rfl, hb⟩; have D6 := Lib.hid (bel_on D5.out hb); have Q6 := Lib.hid (Q5.out.below' hb); clear hb)
    | (at_builtin; (first | rw [show (#[.int .i64 (-1), .int .i64 0] : Array Value) = (cellsE [(-1, 0)]).toArray from rfl] | skip); refine wpList_append_ents _ rfl (.tmp 67) (.tmp 68) rfl w6.heap.size (some ⟨w6.heap.size, 0, none⟩) 1 1 [(-1, 0)] rfl rfl (OE.lit _ w6 [(-1, 0)] (Nat.le_refl _) (by simp) rfl) A n c es HNN.out rfl ((HEE.out.below (bel_on D6.out (alloc_bel w6 _))).src HNN.out) (by omega) (by simp) ?_; intro A7 c7 w7 ho7 hb7 hg7; have O7 := Lib.hid ho7; have E7 := Lib.hid ((alloc_bel w6 _).trans hb7); clear ho7 hb7 hg7)
    | (at_builtin; (first | rw [show (#[.int .i64 64, .int .i64 0] : Array Value) = (cellsE [(64, 0)]).toArray from rfl] | skip); refine wpList_append_ents _ rfl (.tmp 70) (.tmp 72) rfl w6.heap.size A7 (1 + n) c7 _ HES.out rfl (O7.out.below (alloc_bel w7 _)) (some ⟨w7.heap.size, 0, none⟩) 1 1 [(64, 0)] rfl rfl ((((OE.lit w7.heap.size w7 [(64, 0)] (Nat.le_refl _) (by simp) (n := 1) rfl).er (by simp))).src rfl) (by omega) (by have := E7.out.size; simp; omega) ?_; intro A8 c8 w8 ho8 hb8 hg8; rw [HDE.out] at ho8; have O8 := Lib.hid ho8; have E8 := E7.out.trans (((alloc_bel w7 _).mono E7.out.size).trans hb8); have D8 := Lib.hid (bel_on D6.out E8); have Q8 := Lib.hid (Q6.out.below' E8); clear ho8 hb8 hg8 E8))
  all_goals first | omega | skip
  have R8 : Hid (ER w8 A8 c8 ds) := O8.out.er (by rw [HDL.out]; omega)
  obtain ⟨V, hV⟩ : ∃ V, V = w8 := ⟨_, rfl⟩
  rw [← hV] at R8
  have DV : Hid (Below w.heap.size w V) := by rw [hV]; exact D8
  have QV : Hid (Blk V w.heap.size 100 #[.int .i64 r0, .int .i64 q0, .int .i64 r1, .int .i64 q1, .int .i64 ((n : Int) + 2), .int .i64 b, .slice P m d, .int .i64 a2, .int .i64 b2, .slice R k e]) := by rw [hV]; exact Q8
  have HVV := Lib.hid hV
  clear O8 D8 Q8 hV
  go_loopw [12, 14] (fun vo vi wr => ∃ (i : Nat) (A' : Option Addr) (c' : Nat), i ≤ n + 2 ∧ vi = .int .i64 (i : Int) ∧ vo = .slice A' i c' ∧ Hid (OK16 V.heap.size wr A' c' (ls.take i)) ∧ Below V.heap.size V wr) (fun _ vi _ => n + 2 - (intOf vi).toNat)
  case atStart => exact ⟨0, none, 0, by omega, rfl, rfl, OK16.nil _ _, by rw [← HVV.out]; exact Below.refl _ _⟩
  case round =>
    obtain ⟨i, A', c', hi, rfl, rfl, HO, hbel⟩ := hrel
    by_cases hlt : i < n + 2
    · have hii : (i : Int) < 1 + (n : Int) + 1 := by omega
      have hil : i < ds.length := by have := HDL.out; omega
      obtain ⟨bb, off, rfl, hb, hc0, hc1⟩ := (R8.out.below hbel).at_ hil
      have HTK := Lib.hid (HST.out i hil)
      have HX := Lib.hid (HLE.out _ (List.getElem_mem hil))
      obtain ⟨y, hy⟩ : ∃ y, ds[i] = y := ⟨_, rfl⟩
      rw [hy] at hc0 hc1 HTK HX
      obtain ⟨ry, uy⟩ := y
      have HTL : Hid ((ls.take i).length = i) := by unfold Hid; rw [List.length_take, HLL.out]; omega
      have HLF : Hid ((leafE (ry, uy)).length = 16) := leafE_length _
      generalize leafE (ry, uy) = tt at HTK HLF HX
      simp only at hc0 hc1 HX
      have HBL := Lib.hid hbel
      clear hil hy hbel
      go_wp2_with (first
        | (go_at_call 55; (with_reducible refine (HX.out _).mono ?_); rintro e u2 ⟨rfl, hb2⟩; have B2 := Lib.hid (bel_on HBL.out hb2); have O2 := Lib.hid (HO.out.below hb2); clear hb2 hc0 hc1)
        | ((first | rw [zero16] | skip); refine wpList_store_row rfl 24 (.tmp 15) (.tmp 86) rfl u2.heap.size (cellsB tt).toArray rfl rfl 24 (cellsB zeroK).toArray (Blk.new u2 _ _) (cellsB_size _ HLF.out) (cellsB_sizes _ _ zeroK_length HLF.out) (cellsB_all _) ?_; obtain ⟨u3, hV⟩ : ∃ W, W = (u2.alloc (.cells (cellsB zeroK).toArray 24)).setRow u2.heap.size (cellsB tt).toArray := ⟨_, rfl⟩; rw [← hV]; obtain ⟨hb3, nb⟩ := keybox2_ _ _ _ _ hV; have B3 := Lib.hid (bel_on B2.out hb3); have O3 := Lib.hid (O2.out.below hb3); have T3 := Lib.hid nb; clear hV hb3 nb)
        | (refine wpList_load_row rfl 24 (.tmp 15) rfl u2.heap.size rfl 24 (cellsB tt).toArray (0, 0) _ T3.out under_key rfl (cellsB_size _ HLF.out) ?_)
        | (refine wpList_build_key rfl (.tmp 91) rfl tt HLF.out rfl ?_)
        | (at_builtin; refine wpList_append_keysE _ rfl (.tmp 90) (.tmp 92) rfl V.heap.size A' i c' _ HTL.out rfl (O3.out.below (alloc_bel u3 _)) (some ⟨u3.heap.size, 0, none⟩) 1 1 [tt] rfl rfl (src_key u3 HLF.out) (by omega) (by have := B3.out.size; simp; omega) ?_; intro A4 c4 u4 ho4 hb4 hg4; have O4 := Lib.hid ho4; have B4 := (bel_on B3.out (alloc_bel u3 _)).trans hb4; clear ho4 hb4 hg4))
      go_roundw
      case rel => exact ⟨i + 1, A4, c4, by omega, by go_num, rfl, by rw [HTK.out]; exact O4.out, B4⟩
      case measure => simp [intOf]; omega
    · obtain rfl : i = n + 2 := by omega
      have hii : 1 + (n : Int) + 1 ≤ ((n + 2 : Nat) : Int) := by omega
      have KX : Hid (KR wr A' c' ls) := by
        have := HO.out
        rw [List.take_of_length_le (by rw [HLL.out]; omega)] at this
        exact this.kr HL16.out (by rw [HLL.out]; omega)
      have D9 := Lib.hid (bel_on DV.out hbel)
      have Q9 := Lib.hid (QV.out.below' hbel)
      clear HO hbel
      go_wp2_with (first
        | (refine wpList_load_mid rfl 98 (.tmp 95) rfl w.heap.size 0 rfl [.int .i64 r0, .int .i64 q0] _ (rangeOf Q9.out 0 _ rfl) Tryz.underlying98 rfl (by kernel_rfl) ?_)
        | (go_at_call 55; (with_reducible refine (hL1.out _).mono ?_); rintro e u1 ⟨rfl, hb⟩; have D10 := Lib.hid (bel_on D9.out hb); have Q10 := Lib.hid (Q9.out.below' hb); have KX1 := Lib.hid (KX.out.below hb); clear hb)
        | ((first | rw [zero16] | skip); refine wpList_store_row rfl 24 (.tmp 17) (.tmp 98) rfl u1.heap.size (cellsB g1).toArray rfl rfl 24 (cellsB zeroK).toArray (Blk.new u1 _ _) (cellsB_size _ HG1.out) (cellsB_sizes _ _ zeroK_length HG1.out) (cellsB_all _) ?_; obtain ⟨u2, hV⟩ : ∃ W, W = (u1.alloc (.cells (cellsB zeroK).toArray 24)).setRow u1.heap.size (cellsB g1).toArray := ⟨_, rfl⟩; rw [← hV]; obtain ⟨hb, nb⟩ := keybox2_ _ _ _ _ hV; have D11 := Lib.hid (bel_on D10.out hb); have Q11 := Lib.hid (Q10.out.below' hb); have KX2 := Lib.hid (KX1.out.below hb); have G11 := Lib.hid nb; clear hV hb nb)
        | (refine wpList_load_mid rfl 98 (.tmp 101) rfl w.heap.size 2 rfl [.int .i64 r1, .int .i64 q1] _ (rangeOf Q11.out 2 _ rfl) Tryz.underlying98 rfl (by kernel_rfl) ?_)
        | (go_at_call 55; (with_reducible refine (hL2.out _).mono ?_); rintro e u3 ⟨rfl, hb⟩; have D12 := Lib.hid (bel_on D11.out hb); have Q12 := Lib.hid (Q11.out.below' hb); have KX3 := Lib.hid (KX2.out.below hb); have G12 := Lib.hid (G11.out.below' hb); clear hb)
        | ((first | rw [zero16] | skip); refine wpList_store_row rfl 24 (.tmp 18) (.tmp 104) rfl u3.heap.size (cellsB g2).toArray rfl rfl 24 (cellsB zeroK).toArray (Blk.new u3 _ _) (cellsB_size _ HG2.out) (cellsB_sizes _ _ zeroK_length HG2.out) (cellsB_all _) ?_; obtain ⟨u4, hV⟩ : ∃ W, W = (u3.alloc (.cells (cellsB zeroK).toArray 24)).setRow u3.heap.size (cellsB g2).toArray := ⟨_, rfl⟩; rw [← hV]; obtain ⟨hb, nb⟩ := keybox2_ _ _ _ _ hV; have D13 := Lib.hid (bel_on D12.out hb); have Q13 := Lib.hid (Q12.out.below' hb); have KX4 := Lib.hid (KX3.out.below hb); have G13 := Lib.hid (G12.out.below' hb); have H13 := Lib.hid nb; clear hV hb nb)
        | (go_at_call 40; (with_reducible refine (HTX.out _ _ _ KX4.out).mono ?_); rintro e u5 ⟨⟨X1, x1, n1, rs1, rfl, l1, t1, r1'⟩, hb⟩; have D14 := Lib.hid (bel_on D13.out hb); have Q14 := Lib.hid (Q13.out.below' hb); have G14 := Lib.hid (G13.out.below' hb); have H14 := Lib.hid (H13.out.below' hb); have L1 := Lib.hid l1; have T1 := Lib.hid t1; have RA1 := Lib.hid r1'; clear hb l1 t1 r1')
        | (refine wpList_load_row rfl 24 (.tmp 17) rfl u1.heap.size rfl 24 (cellsB g1).toArray (0, 0) _ G14.out under_key rfl (cellsB_size _ HG1.out) ?_)
        | (refine wpList_load_mid rfl 27 (.tmp 113) rfl w.heap.size 4 rfl [.int .i64 ((n : Int) + 2), .int .i64 b, .slice P m d] _ (rangeOf Q14.out 4 _ rfl) Tryz.underlying27 rfl (by kernel_rfl) ?_)
        | (go_at_call 41; (with_reducible refine (HP1.out _ D14.out).mono ?_); rintro e u6 ⟨⟨X2, x2, n2, rs2, rfl, l2, t2, r2'⟩, hb⟩; have D15 := Lib.hid (bel_on D14.out hb); have Q15 := Lib.hid (Q14.out.below' hb); have H15 := Lib.hid (H14.out.below' hb); have RA2 := Lib.hid (RA1.out.on hb); have L2 := Lib.hid l2; have T2 := Lib.hid t2; have RB2 := Lib.hid r2'; clear hb l2 t2 r2')
        | (refine wpList_load_row rfl 24 (.tmp 18) rfl u3.heap.size rfl 24 (cellsB g2).toArray (0, 0) _ H15.out under_key rfl (cellsB_size _ HG2.out) ?_)
        | (refine wpList_load_mid rfl 27 (.tmp 120) rfl w.heap.size 7 rfl [.int .i64 a2, .int .i64 b2, .slice R k e] _ (rangeOf Q15.out 7 _ rfl) Tryz.underlying27 rfl (by kernel_rfl) ?_)
        | (go_at_call 41; (with_reducible refine (HP2.out _ D15.out).mono ?_); rintro e u7 ⟨⟨X3, x3, n3, rs3, rfl, l3, t3, r3'⟩, hb⟩; have D16 := Lib.hid (bel_on D15.out hb); have RA3 := Lib.hid (RA2.out.on hb); have RB3 := Lib.hid (RB2.out.on hb); have L3 := Lib.hid l3; have T3 := Lib.hid t3; have RC3 := Lib.hid r3'; clear hb l3 t3 r3')
        | (go_at_call 39; (with_reducible refine (HCL.out _ _ _ _ _ _ _ _ _ _ _ _ _ L1.out L2.out L3.out T1.out T2.out T3.out RA3.out RB3.out RC3.out).mono ?_); rintro e u8 ⟨rfl, hb⟩; have D17 := Lib.hid (bel_on D16.out hb); clear hb))
      go_ret
      exact ⟨rfl, D17.out⟩

theorem auditAbsent_walk (A : Option Addr) (c : Nat) (es : List Ent) (u r0 q0 r1 q1 a b : Int) (P : Option Addr) (d : Nat) (ps : List (List UInt8)) (a2 b2 : Int) (R : Option Addr) (e : Nat) (rs : List (List UInt8)) (w : World) (h : ER w A c es) (hc : c * 16 ≤ 140737488351232) (_ : -9223372036854775808 ≤ u) (_ : u ≤ 9223372036854775807) (hp : KR w P d ps) (hr : KR w R e rs) (hT : TestsIn w) :
    Calls Tryz.prog 14 #[.slice A es.length c, .int .i64 u, .agg #[.int .i64 r0, .int .i64 q0, .int .i64 r1, .int .i64 q1, .int .i64 a, .int .i64 b, .slice P ps.length d, .int .i64 a2, .int .i64 b2, .slice R rs.length e]] w fun e w' => e = .returned (.bool true) ∧ Below w.heap.size w w' := by
  have HA : Hid (∀ W, Below w.heap.size w W → Calls Tryz.prog 25 #[] W fun e w' => e = .returned (.bool true) ∧ Below W.heap.size W w') := fun W hW => alive_any W (range_below hT hW)
  cases hv : validL es with
  | false => exact absent_bad es A c u r0 q0 r1 q1 a b P d ps a2 b2 R e rs w rfl rfl rfl h hp hr HA hv
  | true =>
    by_cases ha : a = (es.length : Int) + 2
    · subst ha
      by_cases hu : u < 0 ∨ 64 ≤ u
      · exact absent_no es A c u r0 q0 r1 q1 0 b P d ps a2 b2 R e rs w rfl rfl rfl h hp hr HA hv 2 (.inr (.inl rfl)) (by unfold voS; rw [if_pos hu])
      · cases hok : okV (r0, q0) (r1, q1) ((es.length : Int) + 2) b ps.length a2 b2 rs.length with
        | false => exact absent_no es A c u r0 q0 r1 q1 0 b P d ps a2 b2 R e rs w rfl rfl rfl h hp hr HA hv 8 (.inr (.inr rfl)) (by unfold voS; rw [if_neg hu, if_pos hok])
        | true =>
          have ev : voS (rootS (leavesE es)) u (r0, q0) (r1, q1) ((es.length : Int) + 2) b ps a2 b2 rs = (nearB (r0, q0) (r1, q1) u ((es.length : Int) + 2) b a2 b2 && (((climbS (leafE (r0, q0)) ((es.length : Int) + 2).toNat b.toNat ps).1 == rootS (leavesE es)) && ((climbS (leafE (r1, q1)) a2.toNat b2.toNat rs).1 == rootS (leavesE es))), 0) := by
            unfold voS; rw [if_neg hu, if_neg (by rw [hok]; simp)]
          cases hb : (nearB (r0, q0) (r1, q1) u ((es.length : Int) + 2) b a2 b2 && (((climbS (leafE (r0, q0)) ((es.length : Int) + 2).toNat b.toNat ps).1 == rootS (leavesE es)) && ((climbS (leafE (r1, q1)) a2.toNat b2.toNat rs).1 == rootS (leavesE es)))) with
          | false => rw [hb] at ev; exact absent_no es A c u r0 q0 r1 q1 0 b P d ps a2 b2 R e rs w rfl rfl rfl h hp hr HA hv 0 (.inl rfl) ev
          | true =>
            rw [hb] at ev
            by_cases hun : untilS es u < 0
            · exact absent_off es A c u r0 q0 r1 q1 0 b P d ps a2 b2 R e rs w rfl rfl rfl h hp hr HA hv ev hun
            · rw [Bool.and_eq_true, Bool.and_eq_true, beq_iff_eq, beq_iff_eq] at hb
              obtain ⟨n1, n2, n3, n4⟩ := nearB_iff.1 hb.1
              obtain ⟨ok1, ok2, ok3, ok4⟩ := okV_iff.1 hok
              obtain ⟨⟨x1, x2, x3, x4⟩, x5⟩ := fitsB_iff.1 ok3
              obtain ⟨⟨y1, y2, y3, y4⟩, y5⟩ := fitsB_iff.1 ok4
              obtain ⟨j, rfl⟩ : ∃ j : Nat, b = (j : Int) := ⟨b.toNat, by omega⟩
              have e1 : ((es.length : Int) + 2).toNat = es.length + 2 := by omega
              have e2 : a2.toNat = es.length + 2 := by omega
              have e3 : b2.toNat = j + 1 := by omega
              have g1 := hb.2.1
              have g2 := hb.2.2
              rw [e1, Int.toNat_natCast] at g1 x5
              rw [e2, e3] at g2 y5
              rcases absent_true hv (i := j) ok1 ok2 n1 n2 (by omega) x5 y5 hp.2 hr.2 g1 g2 with hx | hx
              · omega
              · exact absent_clash es A c u r0 q0 r1 q1 0 (j : Int) P d ps a2 b2 R e rs w rfl rfl rfl h hp hr HA hv j rfl hok ev (by omega) (by rw [Int.toNat_natCast, e2, e3]; exact hx)
    · exact absent_other es A c u r0 q0 r1 q1 a b P d ps a2 b2 R e rs w rfl rfl rfl h hp hr HA hv ha
end Go.Proofs.YtinpiodfpnbllaaGreatDoor
