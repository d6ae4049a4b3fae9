/-
  Lemmas and contracts, joined.
-/
import Derived.Test.YtinpiodfpnbllaaGreatDoorAuB5
import Derived.Test.YtinpiodfpnbllaaGreatDoorAuB4
import Derived.Test.YtinpiodfpnbllaaGreatDoorAuE1
set_option linter.unusedSimpArgs false
set_option linter.unusedVariables false
set_option linter.unnecessarySimpa false
/- Entries, lists of entries and proofs of absence among a law's arguments, opened. -/
namespace Go.Proofs.YtinpiodfpnbllaaGreatDoor
open Go.ChangeShapes Go.WideShapes Go.ChangeAt Go.RowKit Go.Deep
set_option linter.unusedVariables false

theorem cells_ent : Tryz.prog.cellsOf 98 = 2 := by kernel_rfl
theorem bytes_ent : Tryz.prog.bytesOf 98 = 16 := by kernel_rfl
theorem cells_proof : Tryz.prog.cellsOf 27 = 3 := by kernel_rfl
theorem entry_of_trod {H : Type} {enc : TypeId × Value → H} {W : World} {fuel : Nat} {cs : List Value} {x : DataW H × List MemPlace} (h : DataW.trod enc Tryz.prog W 0 (fun _ => true) true fuel 98 cs = some x) : ∃ e : Ent, cs = cellsX e := by
  obtain ⟨y0, y1, n, rfl, hl, h0, h1⟩ := trod_struct2 Tryz.underlying98 h
  dsimp only at h0 h1
  rw [cells_i64] at h0 h1
  rw [cells_ent] at hl
  obtain ⟨a, e0, _⟩ := int_of_trod h0
  obtain ⟨b, e1, _⟩ := int_of_trod h1
  refine ⟨(a, b), ?_⟩
  match cs, hl with
  | [u, v], _ =>
    simp only [List.drop_zero, List.take_succ_cons, List.take_zero, List.drop_succ_cons, List.cons.injEq, and_true] at e0 e1
    rw [e0, e1]; rfl
theorem ents_of_trod {H : Type} {enc : TypeId × Value → H} {W : World} {fuel : Nat} {t : TypeId} {cs : List Value} {x : DataW H × List MemPlace} (ht : Tryz.prog.underlying t = some (.slice 98)) (h : DataW.trod enc Tryz.prog W 0 (fun _ => true) true fuel t cs = some x)
    (hw : ∀ n ∈ x.1.weights Tryz.prog t, n ≤ reachBytes) : ∃ A c es, cs = [.slice A (List.length es) c] ∧ ER W A c es ∧ c * 16 ≤ 140737488351232 := by
  obtain ⟨A, len, cap, m, C, D, rfl, hle, hcap, hby, hcell, hel⟩ := slice_of_trod ht cells_ent (by omega) bytes_ent h hw
  obtain ⟨U, hU⟩ := choose_lt (α := Ent) (p := fun i e => C i = cellsX e) (fun i hi => entry_of_trod (hel i hi).2.1)
  have hrd := rd_of_cells (by_ := 16) hle hcap (by omega) (fun i hi => (hel i hi).1) hcell
  have hfl : (List.range len).flatMap C = cellsE ((List.range len).map U) := by
    unfold cellsE
    rw [List.flatMap_def, List.map_congr_left (g := fun i => cellsX (U i)) (fun i hi => hU i (List.mem_range.1 hi)), ← List.flatMap_def]
    generalize List.range len = l
    induction l with
    | nil => rfl
    | cons a l ih => simp [ih]
  rw [hfl] at hrd
  exact ⟨A, cap, (List.range len).map U, by simp, by unfold ER; simpa using hrd, hby⟩
theorem absence_of_trod {H : Type} {enc : TypeId × Value → H} {W : World} {fuel : Nat} {cs : List Value} {x : DataW H × List MemPlace} (h : DataW.trod enc Tryz.prog W 0 (fun _ => true) true fuel 100 cs = some x)
    (hw : ∀ n ∈ x.1.weights Tryz.prog 100, n ≤ reachBytes) : ∃ r0 q0 r1 q1 a b A c P a2 b2 A2 c2 R, cs = [.int .i64 r0, .int .i64 q0, .int .i64 r1, .int .i64 q1, .int .i64 a, .int .i64 b, .slice A (List.length P) c, .int .i64 a2, .int .i64 b2, .slice A2 (List.length R) c2] ∧ KR W A c P ∧ KR W A2 c2 R := by
  obtain ⟨y0, y1, y2, y3, n, rfl, hl, h0, h1, h2, h3⟩ := Go.Joins.trod_struct4 Tryz.underlying100 h
  have hw' : ∀ n ∈ DataW.weightsEach Tryz.prog [98, 98, 27, 27] [y0.1, y1.1, y2.1, y3.1], n ≤ reachBytes := by simpa [DataW.weights, Tryz.underlying100] using hw
  dsimp only at h0 h1 h2 h3
  rw [cells_ent] at h0 h1
  rw [cells_proof] at h2 h3
  rw [show Tryz.prog.cellsOf 100 = 10 from by kernel_rfl] at hl
  obtain ⟨lo, e0⟩ := entry_of_trod h0
  obtain ⟨hi, e1⟩ := entry_of_trod h1
  obtain ⟨a, b, A, c, P, e2, hk⟩ := proof_of_trod h2 (fun m hm => hw' m (DataW.weights_mem_each (j := 2) rfl rfl m hm))
  obtain ⟨a2, b2, A2, c2, R, e3, hk2⟩ := proof_of_trod h3 (fun m hm => hw' m (DataW.weights_mem_each (j := 3) rfl rfl m hm))
  refine ⟨lo.1, lo.2, hi.1, hi.2, a, b, A, c, P, a2, b2, A2, c2, R, ?_, hk, hk2⟩
  match cs, hl with
  | [x0, x1, x2, x3, x4, x5, x6, x7, x8, x9], _ =>
    simp only [cellsX, List.drop_zero, List.take_succ_cons, List.take_zero, List.drop_succ_cons, List.cons.injEq, and_true] at e0 e1 e2 e3
    rw [e0.1, e0.2, e1.1, e1.2, e2.1, e2.2.1, e2.2.2, e3.1, e3.2.1, e3.2.2]
set_option maxRecDepth 100000 in
theorem open_entries {H : Type} {enc : TypeId × Value → H} {W : World} {b0 : Nat} {v : Value} {d : DataW H} {ps : List MemPlace} (hval : Value.okWide Tryz.prog W .any b0 56 v) (hd : DataW.Trod enc Tryz.prog W 0 (fun _ => true) true 56 v d ps)
    (hw : ∀ n ∈ d.weights Tryz.prog 56, n ≤ reachBytes) : ∃ A c z, v = .slice A (List.length z) c ∧ ER W A c z ∧ c * 16 ≤ 140737488351232 := by
  obtain ⟨fuel, hf⟩ := hd
  obtain ⟨A, c, z, e, h, hc⟩ := ents_of_trod Tryz.underlying56 hf hw
  exact ⟨A, c, z, slice_val Tryz.underlying56 hval e, h, hc⟩
set_option maxRecDepth 100000 in
theorem open_entry {H : Type} {enc : TypeId × Value → H} {W : World} {b0 : Nat} {v : Value} {d : DataW H} {ps : List MemPlace} (hval : Value.okWide Tryz.prog W .any b0 98 v) (hd : DataW.Trod enc Tryz.prog W 0 (fun _ => true) true 98 v d ps) :
    ∃ r u, v = .agg #[.int .i64 r, .int .i64 u] := by
  obtain ⟨cs, rfl, hsz⟩ := okWide_struct Tryz.underlying98 hval
  obtain ⟨fuel, hf⟩ := hd
  obtain ⟨e, h⟩ := entry_of_trod hf
  refine ⟨e.1, e.2, ?_⟩
  have : cs = cs.toList.toArray := by simp
  rw [this]
  exact congrArg (fun l => Value.agg (List.toArray l)) h
set_option maxRecDepth 100000 in
theorem open_absence {H : Type} {enc : TypeId × Value → H} {W : World} {b0 : Nat} {v : Value} {d : DataW H} {ps : List MemPlace} (hval : Value.okWide Tryz.prog W .any b0 100 v) (hd : DataW.Trod enc Tryz.prog W 0 (fun _ => true) true 100 v d ps)
    (hw : ∀ n ∈ d.weights Tryz.prog 100, n ≤ reachBytes) : ∃ r0 q0 r1 q1 a b A c P a2 b2 A2 c2 R, v = .agg #[.int .i64 r0, .int .i64 q0, .int .i64 r1, .int .i64 q1, .int .i64 a, .int .i64 b, .slice A (List.length P) c, .int .i64 a2, .int .i64 b2, .slice A2 (List.length R) c2] ∧ KR W A c P ∧ KR W A2 c2 R := by
  obtain ⟨cs, rfl, hsz⟩ := okWide_struct Tryz.underlying100 hval
  obtain ⟨fuel, hf⟩ := hd
  obtain ⟨r0, q0, r1, q1, a, b, A, c, P, a2, b2, A2, c2, R, e, h1, h2⟩ := absence_of_trod hf hw
  refine ⟨r0, q0, r1, q1, a, b, A, c, P, a2, b2, A2, c2, R, ?_, h1, h2⟩
  have : cs = cs.toList.toArray := by simp
  rw [this]
  exact congrArg (fun l => Value.agg (List.toArray l)) e
end Go.Proofs.YtinpiodfpnbllaaGreatDoor

/- The law AuditPruned: the walk. -/
namespace Go.Proofs.YtinpiodfpnbllaaGreatDoor
open Go.RowKit
set_option linter.unusedVariables false
set_option linter.unusedSimpArgs false

theorem pruneS_len_ (l : List Ent) (e : Int) : (pruneS l e).length ≤ l.length := by unfold pruneS; exact List.length_filter_le _ _

set_option maxHeartbeats 4000000 in
set_option maxRecDepth 100000 in
theorem pruned_bad (a : List Ent) (A : Option Addr) (c : Nat) (b : List Ent) (B : Option Addr) (d : Nat) (z u : Int) (w : World) {n m : Nat} (hn : a.length = n) (hm : b.length = m) (ha : ER w A c a) (hb' : ER w B d b) (HA : Hid (Calls Tryz.prog 25 #[] w fun e w' => e = .returned (.bool true) ∧ Below w.heap.size w w')) (hbad : validL a = false ∨ (validL a = true ∧ (z < 0 ∨ 1099511627776 < z))) :
    Calls Tryz.prog 10 #[.slice A n c, .slice B m d, .int .i64 z, .int .i64 u] w fun e w' => e = .returned (.bool true) ∧ Below w.heap.size w w' := by
  have HK1 : Hid (∀ W, Below w.heap.size w W → Calls Tryz.prog 30 #[.slice A n c] W fun e w' => e = .returned (.int .i64 (ckL (validL a))) ∧ Below W.heap.size W w') := fun W hW => checkList_any a A c W hn (ha.below hW)
  have HP : Hid (∀ W, Below w.heap.size w W → Calls Tryz.prog 42 #[.slice A n c, .int .i64 z] W fun e w' => (∃ X x, e = .returned (.tuple #[.slice X 0 x, .int .i64 (prS a z).2])) ∧ Below W.heap.size W w') := fun W hW => (Prune_any a z A c W hn (ha.below hW)).mono fun e w' ⟨⟨X, x, he, ho⟩, hb⟩ => by
    have e1 : (prS a z).1 = [] := by unfold prS; rcases hbad with h | ⟨h1, h2⟩ <;> simp_all
    rw [e1] at he
    exact ⟨⟨X, x, he⟩, hb⟩
  rcases hbad with h | ⟨h1, h2⟩
  · rw [show (prS a z).2 = 90 from by unfold prS; rw [if_pos h]] at HP
    rw [show ckL (validL a) = 90 from by rw [h]; rfl] at HK1
    clear hn hm ha hb' h
    go_enter Tryz.func10, Tryz.ntmps10
    go_wp2_with (first
      | (go_at_call 25; (with_reducible refine (HA.out).mono ?_); rintro e w1 ⟨rfl, hb⟩; have D1 := Lib.hid hb; clear hb)
      | (go_at_call 42; (with_reducible refine (HP.out _ D1.out).mono ?_); rintro e w2 ⟨⟨X, x, rfl⟩, hb⟩; have D2 := Lib.hid (bel_on D1.out hb); clear hb)
      | (go_at_call 30; (with_reducible refine (HK1.out _ D2.out).mono ?_); rintro e w3 ⟨rfl, hb⟩; have D3 := Lib.hid (bel_on D2.out hb); clear hb))
    go_ret
    exact ⟨rfl, D3.out⟩
  · rw [show (prS a z).2 = 2 from by unfold prS; rw [if_neg (by rw [h1]; simp), if_pos h2]] at HP
    rw [show ckL (validL a) = 0 from by rw [h1]; rfl] at HK1
    clear hn hm ha hb' h1
    go_enter Tryz.func10, Tryz.ntmps10
    go_wp2_with (first
      | (go_at_call 25; (with_reducible refine (HA.out).mono ?_); rintro e w1 ⟨rfl, hb⟩; have D1 := Lib.hid hb; clear hb)
      | (go_at_call 42; (with_reducible refine (HP.out _ D1.out).mono ?_); rintro e w2 ⟨⟨X, x, rfl⟩, hb⟩; have D2 := Lib.hid (bel_on D1.out hb); clear hb)
      | (go_at_call 30; (with_reducible refine (HK1.out _ D2.out).mono ?_); rintro e w3 ⟨rfl, hb⟩; have D3 := Lib.hid (bel_on D2.out hb); clear hb))
    all_goals first | omega | (go_ret; exact ⟨rfl, D3.out⟩)

set_option maxHeartbeats 8000000 in
set_option maxRecDepth 100000 in
theorem pruned_mid (a : List Ent) (A : Option Addr) (c : Nat) (b : List Ent) (B : Option Addr) (d : Nat) (z u : Int) (w : World) {n m : Nat} (hn : a.length = n) (hm : b.length = m) (ha : ER w A c a) (hb' : ER w B d b) (HA : Hid (Calls Tryz.prog 25 #[] w fun e w' => e = .returned (.bool true) ∧ Below w.heap.size w w')) (h1 : validL a = true) (hz0 : 0 ≤ z) (hz1 : z ≤ 1099511627776) (h2 : validL b = false) :
    Calls Tryz.prog 10 #[.slice A n c, .slice B m d, .int .i64 z, .int .i64 u] w fun e w' => e = .returned (.bool true) ∧ Below w.heap.size w w' := by
  have g1 : prS a z = (pruneS a z, 0) := by unfold prS; rw [if_neg (by rw [h1]; simp), if_neg (by omega)]
  have hva := pruneS_valid h1 z
  have hla := pruneS_len_ a z
  have hal := ha.len
  have hpq : (z ≤ untilS a u ∧ untilS (pruneS a z) u = untilS a u) ∨ (untilS a u < z ∧ untilS (pruneS a z) u = -1) := by
    have := untilS_prune h1 hz0 u
    split at this
    · exact .inl ⟨by assumption, this⟩
    · exact .inr ⟨by omega, this⟩
  have HP : Hid (∀ W, Below w.heap.size w W → Calls Tryz.prog 42 #[.slice A n c, .int .i64 z] W fun e w' => (∃ X x, e = .returned (.tuple #[.slice X (pruneS a z).length x, .int .i64 0]) ∧ ER w' X x (pruneS a z)) ∧ Below W.heap.size W w') := fun W hW => (Prune_any a z A c W hn (ha.below hW)).mono fun e w' ⟨⟨X, x, he, ho⟩, hb⟩ => by
    rw [g1] at he ho
    exact ⟨⟨X, x, he, ho.er (by dsimp only; omega)⟩, hb⟩
  have HK1 : Hid (∀ W, Below w.heap.size w W → Calls Tryz.prog 30 #[.slice A n c] W fun e w' => e = .returned (.int .i64 0) ∧ Below W.heap.size W w') := fun W hW => by
    have := checkList_any a A c W hn (ha.below hW)
    rwa [h1] at this
  have HK2 : Hid (∀ W, Below w.heap.size w W → Calls Tryz.prog 30 #[.slice B m d] W fun e w' => e = .returned (.int .i64 90) ∧ Below W.heap.size W w') := fun W hW => by
    have := checkList_any b B d W hm (hb'.below hW)
    rwa [h2] at this
  have HKX : Hid (∀ W X x, ER W X x (pruneS a z) → Calls Tryz.prog 30 #[.slice X (pruneS a z).length x] W fun e w' => e = .returned (.int .i64 0) ∧ Below W.heap.size W w') := fun W X x h => by
    have := checkList_any (pruneS a z) X x W rfl h
    rwa [hva] at this
  have HU1 : Hid (∀ W, Below w.heap.size w W → Calls Tryz.prog 32 #[.slice A n c, .int .i64 u] W fun e w' => e = .returned (.int .i64 (untilS a u)) ∧ Below W.heap.size W w') := fun W hW => lawUntil_any a u A c W hn (ha.below hW)
  have HU2 : Hid (∀ W X x, ER W X x (pruneS a z) → Calls Tryz.prog 32 #[.slice X (pruneS a z).length x, .int .i64 u] W fun e w' => e = .returned (.int .i64 (untilS (pruneS a z) u)) ∧ Below W.heap.size W w') := fun W X x h => lawUntil_any (pruneS a z) u X x W rfl h
  clear g1 hva hla hal hn hm ha hb' h1 h2
  generalize pruneS a z = L1 at HP HKX HU2 hpq
  generalize L1.length = N1 at HP HKX HU2
  generalize untilS a u = p at HU1 hpq
  generalize untilS L1 u = q at HU2 hpq
  rcases hpq with ⟨hq, rfl⟩ | ⟨hq, rfl⟩
  · go_enter Tryz.func10, Tryz.ntmps10
    go_wp2_with (first
      | (go_at_call 25; (with_reducible refine (HA.out).mono ?_); rintro e w1 ⟨rfl, hb⟩; have D1 := Lib.hid hb; clear hb)
      | (go_at_call 42; (with_reducible refine (HP.out _ D1.out).mono ?_); rintro e w2 ⟨⟨X, x, rfl, ho⟩, hb⟩; have D2 := Lib.hid (bel_on D1.out hb); have X2 := Lib.hid ho; clear hb ho)
      | (go_at_call 30; (with_reducible refine (HK1.out _ D2.out).mono ?_); rintro e w3 ⟨rfl, hb⟩; have D3 := Lib.hid (bel_on D2.out hb); have X3 := Lib.hid (X2.out.below hb); clear hb)
      | (go_at_call 32; (with_reducible refine (HU1.out _ D3.out).mono ?_); rintro e w4 ⟨rfl, hb⟩; have D4 := Lib.hid (bel_on D3.out hb); have X4 := Lib.hid (X3.out.below hb); clear hb)
      | (go_at_call 32; (with_reducible refine (HU2.out _ _ _ X4.out).mono ?_); rintro e w5 ⟨rfl, hb⟩; have D5 := Lib.hid (bel_on D4.out hb); have X5 := Lib.hid (X4.out.below hb); clear hb)
      | (go_at_call 30; (with_reducible refine (HKX.out _ _ _ X5.out).mono ?_); rintro e w6 ⟨rfl, hb⟩; have D6 := Lib.hid (bel_on D5.out hb); have X6 := Lib.hid (X5.out.below hb); clear hb)
      | (go_at_call 30; (with_reducible refine (HK2.out _ D6.out).mono ?_); rintro e w7 ⟨rfl, hb⟩; have D7 := Lib.hid (bel_on D6.out hb); have X7 := Lib.hid (X6.out.below hb); clear hb))
    all_goals first | omega | (go_ret; exact ⟨rfl, D7.out⟩)
  · go_enter Tryz.func10, Tryz.ntmps10
    go_wp2_with (first
      | (go_at_call 25; (with_reducible refine (HA.out).mono ?_); rintro e w1 ⟨rfl, hb⟩; have D1 := Lib.hid hb; clear hb)
      | (go_at_call 42; (with_reducible refine (HP.out _ D1.out).mono ?_); rintro e w2 ⟨⟨X, x, rfl, ho⟩, hb⟩; have D2 := Lib.hid (bel_on D1.out hb); have X2 := Lib.hid ho; clear hb ho)
      | (go_at_call 30; (with_reducible refine (HK1.out _ D2.out).mono ?_); rintro e w3 ⟨rfl, hb⟩; have D3 := Lib.hid (bel_on D2.out hb); have X3 := Lib.hid (X2.out.below hb); clear hb)
      | (go_at_call 32; (with_reducible refine (HU1.out _ D3.out).mono ?_); rintro e w4 ⟨rfl, hb⟩; have D4 := Lib.hid (bel_on D3.out hb); have X4 := Lib.hid (X3.out.below hb); clear hb)
      | (go_at_call 32; (with_reducible refine (HU2.out _ _ _ X4.out).mono ?_); rintro e w5 ⟨rfl, hb⟩; have D5 := Lib.hid (bel_on D4.out hb); have X5 := Lib.hid (X4.out.below hb); clear hb)
      | (go_at_call 30; (with_reducible refine (HKX.out _ _ _ X5.out).mono ?_); rintro e w6 ⟨rfl, hb⟩; have D6 := Lib.hid (bel_on D5.out hb); have X6 := Lib.hid (X5.out.below hb); clear hb)
      | (go_at_call 30; (with_reducible refine (HK2.out _ D6.out).mono ?_); rintro e w7 ⟨rfl, hb⟩; have D7 := Lib.hid (bel_on D6.out hb); have X7 := Lib.hid (X6.out.below hb); clear hb))
    all_goals first | omega | (go_ret; exact ⟨rfl, D7.out⟩)

set_option maxHeartbeats 8000000 in
set_option maxRecDepth 100000 in
theorem pruned_good (a : List Ent) (A : Option Addr) (c : Nat) (b : List Ent) (B : Option Addr) (d : Nat) (z u : Int) (w : World) {n m : Nat} (hn : a.length = n) (hm : b.length = m) (ha : ER w A c a) (hb' : ER w B d b) (HA : Hid (Calls Tryz.prog 25 #[] w fun e w' => e = .returned (.bool true) ∧ Below w.heap.size w w')) (h1 : validL a = true) (hz0 : 0 ≤ z) (hz1 : z ≤ 1099511627776) (h2 : validL b = true) :
    Calls Tryz.prog 10 #[.slice A n c, .slice B m d, .int .i64 z, .int .i64 u] w fun e w' => e = .returned (.bool true) ∧ Below w.heap.size w w' := by
  have g1 : prS a z = (pruneS a z, 0) := by unfold prS; rw [if_neg (by rw [h1]; simp), if_neg (by omega)]
  have hva := pruneS_valid h1 z
  have hla := pruneS_len_ a z
  have hal := ha.len
  have hpq : (z ≤ untilS a u ∧ untilS (pruneS a z) u = untilS a u) ∨ (untilS a u < z ∧ untilS (pruneS a z) u = -1) := by
    have := untilS_prune h1 hz0 u
    split at this
    · exact .inl ⟨by assumption, this⟩
    · exact .inr ⟨by omega, this⟩
  have HP : Hid (∀ W, Below w.heap.size w W → Calls Tryz.prog 42 #[.slice A n c, .int .i64 z] W fun e w' => (∃ X x, e = .returned (.tuple #[.slice X (pruneS a z).length x, .int .i64 0]) ∧ ER w' X x (pruneS a z)) ∧ Below W.heap.size W w') := fun W hW => (Prune_any a z A c W hn (ha.below hW)).mono fun e w' ⟨⟨X, x, he, ho⟩, hb⟩ => by
    rw [g1] at he ho
    exact ⟨⟨X, x, he, ho.er (by dsimp only; omega)⟩, hb⟩
  have HK1 : Hid (∀ W, Below w.heap.size w W → Calls Tryz.prog 30 #[.slice A n c] W fun e w' => e = .returned (.int .i64 0) ∧ Below W.heap.size W w') := fun W hW => by
    have := checkList_any a A c W hn (ha.below hW)
    rwa [h1] at this
  have HK2 : Hid (∀ W, Below w.heap.size w W → Calls Tryz.prog 30 #[.slice B m d] W fun e w' => e = .returned (.int .i64 0) ∧ Below W.heap.size W w') := fun W hW => by
    have := checkList_any b B d W hm (hb'.below hW)
    rwa [h2] at this
  have HKX : Hid (∀ W X x, ER W X x (pruneS a z) → Calls Tryz.prog 30 #[.slice X (pruneS a z).length x] W fun e w' => e = .returned (.int .i64 0) ∧ Below W.heap.size W w') := fun W X x h => by
    have := checkList_any (pruneS a z) X x W rfl h
    rwa [hva] at this
  have HU1 : Hid (∀ W, Below w.heap.size w W → Calls Tryz.prog 32 #[.slice A n c, .int .i64 u] W fun e w' => e = .returned (.int .i64 (untilS a u)) ∧ Below W.heap.size W w') := fun W hW => lawUntil_any a u A c W hn (ha.below hW)
  have HU2 : Hid (∀ W X x, ER W X x (pruneS a z) → Calls Tryz.prog 32 #[.slice X (pruneS a z).length x, .int .i64 u] W fun e w' => e = .returned (.int .i64 (untilS (pruneS a z) u)) ∧ Below W.heap.size W w') := fun W X x h => lawUntil_any (pruneS a z) u X x W rfl h
  have g2 : prS b z = (pruneS b z, 0) := by unfold prS; rw [if_neg (by rw [h2]; simp), if_neg (by omega)]
  have hvb := pruneS_valid h2 z
  have hlb := pruneS_len_ b z
  have hbl := hb'.len
  have hvm := mergeS_valid h1 h2
  have hlm := mergeS_le a b
  have hlp := pruneS_len_ (mergeS a b) z
  have g3 : mgS (pruneS a z) (pruneS b z) = (pruneS (mergeS a b) z, 0) := by unfold mgS; rw [hva, hvb, prune_merge h1 h2 hz0]; rfl
  have g4 : mgS a b = (mergeS a b, 0) := by unfold mgS; rw [h1, h2]; rfl
  have g5 : prS (mergeS a b) z = (pruneS (mergeS a b) z, 0) := by unfold prS; rw [if_neg (by rw [hvm]; simp), if_neg (by omega)]
  have HP2 : Hid (∀ W, Below w.heap.size w W → Calls Tryz.prog 42 #[.slice B m d, .int .i64 z] W fun e w' => (∃ X x, e = .returned (.tuple #[.slice X (pruneS b z).length x, .int .i64 0]) ∧ ER w' X x (pruneS b z)) ∧ Below W.heap.size W w') := fun W hW => (Prune_any b z B d W hm (hb'.below hW)).mono fun e w' ⟨⟨X, x, he, ho⟩, hb⟩ => by
    rw [g2] at he ho
    exact ⟨⟨X, x, he, ho.er (by dsimp only; omega)⟩, hb⟩
  have HM1 : Hid (∀ W X x Y y, ER W X x (pruneS a z) → ER W Y y (pruneS b z) → Calls Tryz.prog 29 #[.slice X (pruneS a z).length x, .slice Y (pruneS b z).length y] W fun e w' => (∃ X x, e = .returned (.tuple #[.slice X (pruneS (mergeS a b) z).length x, .int .i64 0]) ∧ ER w' X x (pruneS (mergeS a b) z)) ∧ Below W.heap.size W w') := fun W X x Y y r1 r2 => (Merge_any _ _ X Y x y W rfl rfl r1 r2).mono fun e w' ⟨⟨X, x, he, ho⟩, hb⟩ => by
    rw [g3] at he ho
    exact ⟨⟨X, x, he, ho.er (by dsimp only; omega)⟩, hb⟩
  have HM2 : Hid (∀ W, Below w.heap.size w W → Calls Tryz.prog 29 #[.slice A n c, .slice B m d] W fun e w' => (∃ X x, e = .returned (.tuple #[.slice X (mergeS a b).length x, .int .i64 0]) ∧ ER w' X x (mergeS a b)) ∧ Below W.heap.size W w') := fun W hW => (Merge_any a b A B c d W hn hm (ha.below hW) (hb'.below hW)).mono fun e w' ⟨⟨X, x, he, ho⟩, hb⟩ => by
    rw [g4] at he ho
    exact ⟨⟨X, x, he, ho.er (by dsimp only; omega)⟩, hb⟩
  have HP3 : Hid (∀ W X x, ER W X x (mergeS a b) → Calls Tryz.prog 42 #[.slice X (mergeS a b).length x, .int .i64 z] W fun e w' => (∃ X x, e = .returned (.tuple #[.slice X (pruneS (mergeS a b) z).length x, .int .i64 0]) ∧ ER w' X x (pruneS (mergeS a b) z)) ∧ Below W.heap.size W w') := fun W X x r1 => (Prune_any _ z X x W rfl r1).mono fun e w' ⟨⟨X, x, he, ho⟩, hb⟩ => by
    rw [g5] at he ho
    exact ⟨⟨X, x, he, ho.er (by dsimp only; omega)⟩, hb⟩
  have HS1 : Hid (∀ W X x Y y, ER W X x (pruneS (mergeS a b) z) → ER W Y y (pruneS (mergeS a b) z) → Calls Tryz.prog 31 #[.slice X (pruneS (mergeS a b) z).length x, .slice Y (pruneS (mergeS a b) z).length y] W fun e w' => e = .returned (.bool true) ∧ Below W.heap.size W w') := fun W X x Y y r1 r2 => sameEnts_any _ X x Y y W rfl r1 r2
  clear g1 hva hla hal hn hm ha hb' h1 h2 g2 hvb hlb hbl hvm hlm hlp g3 g4 g5
  generalize pruneS (mergeS a b) z = L4 at HM1 HP3 HS1
  generalize mergeS a b = L3 at HM2 HP3
  generalize pruneS b z = L2 at HP2 HM1
  generalize pruneS a z = L1 at HP HKX HU2 hpq HM1
  generalize L1.length = N1 at HP HKX HU2 HM1
  generalize L2.length = N2 at HP2 HM1
  generalize L3.length = N3 at HM2 HP3
  generalize L4.length = N4 at HM1 HP3 HS1
  generalize untilS a u = p at HU1 hpq
  generalize untilS L1 u = q at HU2 hpq
  rcases hpq with ⟨hq, rfl⟩ | ⟨hq, rfl⟩
  · go_enter Tryz.func10, Tryz.ntmps10
    go_wp2_with (first
      | (go_at_call 25; (with_reducible refine (HA.out).mono ?_); rintro e w1 ⟨rfl, hb⟩; have D1 := Lib.hid hb; clear hb)
      | (go_at_call 42; (with_reducible refine (HP.out _ D1.out).mono ?_); rintro e w2 ⟨⟨X, x, rfl, ho⟩, hb⟩; have D2 := Lib.hid (bel_on D1.out hb); have X2 := Lib.hid ho; clear hb ho)
      | (go_at_call 30; (with_reducible refine (HK1.out _ D2.out).mono ?_); rintro e w3 ⟨rfl, hb⟩; have D3 := Lib.hid (bel_on D2.out hb); have X3 := Lib.hid (X2.out.below hb); clear hb)
      | (go_at_call 32; (with_reducible refine (HU1.out _ D3.out).mono ?_); rintro e w4 ⟨rfl, hb⟩; have D4 := Lib.hid (bel_on D3.out hb); have X4 := Lib.hid (X3.out.below hb); clear hb)
      | (go_at_call 32; (with_reducible refine (HU2.out _ _ _ X4.out).mono ?_); rintro e w5 ⟨rfl, hb⟩; have D5 := Lib.hid (bel_on D4.out hb); have X5 := Lib.hid (X4.out.below hb); clear hb)
      | (go_at_call 30; (with_reducible refine (HKX.out _ _ _ X5.out).mono ?_); rintro e w6 ⟨rfl, hb⟩; have D6 := Lib.hid (bel_on D5.out hb); have X6 := Lib.hid (X5.out.below hb); clear hb)
      | (go_at_call 30; (with_reducible refine (HK2.out _ D6.out).mono ?_); rintro e w7 ⟨rfl, hb⟩; have D7 := Lib.hid (bel_on D6.out hb); have X7 := Lib.hid (X6.out.below hb); clear hb)
      | (go_at_call 42; (with_reducible refine (HP2.out _ D7.out).mono ?_); rintro e w8 ⟨⟨Y, y, rfl, ho⟩, hb⟩; have D8 := Lib.hid (bel_on D7.out hb); have X8 := Lib.hid (X7.out.below hb); have Y8 := Lib.hid ho; clear hb ho)
      | (go_at_call 29; (with_reducible refine (HM1.out _ _ _ _ _ X8.out Y8.out).mono ?_); rintro e w9 ⟨⟨Z, y9, rfl, ho⟩, hb⟩; have D9 := Lib.hid (bel_on D8.out hb); have Z9 := Lib.hid ho; clear hb ho)
      | (go_at_call 29; (with_reducible refine (HM2.out _ D9.out).mono ?_); rintro e w10 ⟨⟨V, v, rfl, ho⟩, hb⟩; have D10 := Lib.hid (bel_on D9.out hb); have Z10 := Lib.hid (Z9.out.below hb); have V10 := Lib.hid ho; clear hb ho)
      | (go_at_call 42; (with_reducible refine (HP3.out _ _ _ V10.out).mono ?_); rintro e w11 ⟨⟨T, t, rfl, ho⟩, hb⟩; have D11 := Lib.hid (bel_on D10.out hb); have Z11 := Lib.hid (Z10.out.below hb); have T11 := Lib.hid ho; clear hb ho)
      | (go_at_call 31; (with_reducible refine (HS1.out _ _ _ _ _ Z11.out T11.out).mono ?_); rintro e w12 ⟨rfl, hb⟩; have D12 := Lib.hid (bel_on D11.out hb); clear hb))
    all_goals first | omega | (go_ret; exact ⟨rfl, D12.out⟩)
  · go_enter Tryz.func10, Tryz.ntmps10
    go_wp2_with (first
      | (go_at_call 25; (with_reducible refine (HA.out).mono ?_); rintro e w1 ⟨rfl, hb⟩; have D1 := Lib.hid hb; clear hb)
      | (go_at_call 42; (with_reducible refine (HP.out _ D1.out).mono ?_); rintro e w2 ⟨⟨X, x, rfl, ho⟩, hb⟩; have D2 := Lib.hid (bel_on D1.out hb); have X2 := Lib.hid ho; clear hb ho)
      | (go_at_call 30; (with_reducible refine (HK1.out _ D2.out).mono ?_); rintro e w3 ⟨rfl, hb⟩; have D3 := Lib.hid (bel_on D2.out hb); have X3 := Lib.hid (X2.out.below hb); clear hb)
      | (go_at_call 32; (with_reducible refine (HU1.out _ D3.out).mono ?_); rintro e w4 ⟨rfl, hb⟩; have D4 := Lib.hid (bel_on D3.out hb); have X4 := Lib.hid (X3.out.below hb); clear hb)
      | (go_at_call 32; (with_reducible refine (HU2.out _ _ _ X4.out).mono ?_); rintro e w5 ⟨rfl, hb⟩; have D5 := Lib.hid (bel_on D4.out hb); have X5 := Lib.hid (X4.out.below hb); clear hb)
      | (go_at_call 30; (with_reducible refine (HKX.out _ _ _ X5.out).mono ?_); rintro e w6 ⟨rfl, hb⟩; have D6 := Lib.hid (bel_on D5.out hb); have X6 := Lib.hid (X5.out.below hb); clear hb)
      | (go_at_call 30; (with_reducible refine (HK2.out _ D6.out).mono ?_); rintro e w7 ⟨rfl, hb⟩; have D7 := Lib.hid (bel_on D6.out hb); have X7 := Lib.hid (X6.out.below hb); clear hb)
      | (go_at_call 42; (with_reducible refine (HP2.out _ D7.out).mono ?_); rintro e w8 ⟨⟨Y, y, rfl, ho⟩, hb⟩; have D8 := Lib.hid (bel_on D7.out hb); have X8 := Lib.hid (X7.out.below hb); have Y8 := Lib.hid ho; clear hb ho)
      | (go_at_call 29; (with_reducible refine (HM1.out _ _ _ _ _ X8.out Y8.out).mono ?_); rintro e w9 ⟨⟨Z, y9, rfl, ho⟩, hb⟩; have D9 := Lib.hid (bel_on D8.out hb); have Z9 := Lib.hid ho; clear hb ho)
      | (go_at_call 29; (with_reducible refine (HM2.out _ D9.out).mono ?_); rintro e w10 ⟨⟨V, v, rfl, ho⟩, hb⟩; have D10 := Lib.hid (bel_on D9.out hb); have Z10 := Lib.hid (Z9.out.below hb); have V10 := Lib.hid ho; clear hb ho)
      | (go_at_call 42; (with_reducible refine (HP3.out _ _ _ V10.out).mono ?_); rintro e w11 ⟨⟨T, t, rfl, ho⟩, hb⟩; have D11 := Lib.hid (bel_on D10.out hb); have Z11 := Lib.hid (Z10.out.below hb); have T11 := Lib.hid ho; clear hb ho)
      | (go_at_call 31; (with_reducible refine (HS1.out _ _ _ _ _ Z11.out T11.out).mono ?_); rintro e w12 ⟨rfl, hb⟩; have D12 := Lib.hid (bel_on D11.out hb); clear hb))
    all_goals first | omega | (go_ret; exact ⟨rfl, D12.out⟩)

theorem auditPruned_walk (A : Option Addr) (c : Nat) (a : List Ent) (B : Option Addr) (d : Nat) (b : List Ent) (z u : Int) (w : World) (ha : ER w A c a) (hc : c * 16 ≤ 140737488351232) (hb : ER w B d b) (hd : d * 16 ≤ 140737488351232) (_ : -9223372036854775808 ≤ z) (_ : z ≤ 9223372036854775807) (_ : -9223372036854775808 ≤ u) (_ : u ≤ 9223372036854775807) (hT : TestsIn w) :
    Calls Tryz.prog 10 #[.slice A a.length c, .slice B b.length d, .int .i64 z, .int .i64 u] w fun e w' => e = .returned (.bool true) ∧ Below w.heap.size w w' := by
  have HA := Lib.hid (alive_any w hT)
  cases h1 : validL a with
  | false => exact pruned_bad a A c b B d z u w rfl rfl ha hb HA (.inl h1)
  | true =>
    by_cases hz : z < 0 ∨ 1099511627776 < z
    · exact pruned_bad a A c b B d z u w rfl rfl ha hb HA (.inr ⟨h1, hz⟩)
    · cases h2 : validL b with
      | false => exact pruned_mid a A c b B d z u w rfl rfl ha hb HA h1 (by omega) (by omega) h2
      | true => exact pruned_good a A c b B d z u w rfl rfl ha hb HA h1 (by omega) (by omega) h2
end Go.Proofs.YtinpiodfpnbllaaGreatDoor
