/-
  Lemmas and contracts, joined.
-/
import Derived.Test.YtinpiodfpnbllaaGreatDoorAuB5
import Derived.Test.YtinpiodfpnbllaaGreatDoorAuB4
import Derived.Test.YtinpiodfpnbllaaGreatDoorAuO1
import Derived.Test.YtinpiodfpnbllaaGreatDoorAuO2
set_option linter.unusedSimpArgs false
set_option linter.unusedVariables false
set_option linter.unnecessarySimpa false
/- Entries, lists of entries and proofs of absence among a law's arguments, opened. -/
namespace Go.Proofs.YtinpiodfpnbllaaGreatDoor
open Go.ChangeShapes Go.WideShapes Go.ChangeAt Go.RowKit Go.Deep
set_option linter.unusedVariables false

theorem cells_ent : Tryz.prog.cellsOf 98 = 2 := by kernel_rfl
theorem bytes_ent : Tryz.prog.bytesOf 98 = 16 := by kernel_rfl
theorem entry_of_trod {H : Type} {enc : TypeId × Value → H} {W : World} {fuel : Nat} {cs : List Value} {x : DataW H × List MemPlace} (h : DataW.trod enc Tryz.prog W 0 (fun _ => true) true fuel 98 cs = some x) : ∃ e : Ent, cs = cellsX e := by
  obtain ⟨y0, y1, n, rfl, hl, h0, h1⟩ := trod_struct2 Tryz.underlying98 h
  dsimp only at h0 h1
  rw [cells_i64] at h0 h1
  rw [cells_ent] at hl
  obtain ⟨a, e0, _⟩ := int_of_trod h0
  obtain ⟨b, e1, _⟩ := int_of_trod h1
  refine ⟨(a, b), ?_⟩
  match cs, hl with
  | [u, v], _ =>
    simp only [List.drop_zero, List.take_succ_cons, List.take_zero, List.drop_succ_cons, List.cons.injEq, and_true] at e0 e1
    rw [e0, e1]; rfl
theorem ents_of_trod {H : Type} {enc : TypeId × Value → H} {W : World} {fuel : Nat} {t : TypeId} {cs : List Value} {x : DataW H × List MemPlace} (ht : Tryz.prog.underlying t = some (.slice 98)) (h : DataW.trod enc Tryz.prog W 0 (fun _ => true) true fuel t cs = some x)
    (hw : ∀ n ∈ x.1.weights Tryz.prog t, n ≤ reachBytes) : ∃ A c es, cs = [.slice A (List.length es) c] ∧ ER W A c es ∧ c * 16 ≤ 140737488351232 := by
  obtain ⟨A, len, cap, m, C, D, rfl, hle, hcap, hby, hcell, hel⟩ := slice_of_trod ht cells_ent (by omega) bytes_ent h hw
  obtain ⟨U, hU⟩ := choose_lt (α := Ent) (p := fun i e => C i = cellsX e) (fun i hi => entry_of_trod (hel i hi).2.1)
  have hrd := rd_of_cells (by_ := 16) hle hcap (by omega) (fun i hi => (hel i hi).1) hcell
  have hfl : (List.range len).flatMap C = cellsE ((List.range len).map U) := by
    unfold cellsE
    rw [List.flatMap_def, List.map_congr_left (g := fun i => cellsX (U i)) (fun i hi => hU i (List.mem_range.1 hi)), ← List.flatMap_def]
    generalize List.range len = l
    induction l with
    | nil => rfl
    | cons a l ih => simp [ih]
  rw [hfl] at hrd
  exact ⟨A, cap, (List.range len).map U, by simp, by unfold ER; simpa using hrd, hby⟩
set_option maxRecDepth 100000 in
theorem open_entries {H : Type} {enc : TypeId × Value → H} {W : World} {b0 : Nat} {v : Value} {d : DataW H} {ps : List MemPlace} (hval : Value.okWide Tryz.prog W .any b0 56 v) (hd : DataW.Trod enc Tryz.prog W 0 (fun _ => true) true 56 v d ps)
    (hw : ∀ n ∈ d.weights Tryz.prog 56, n ≤ reachBytes) : ∃ A c z, v = .slice A (List.length z) c ∧ ER W A c z ∧ c * 16 ≤ 140737488351232 := by
  obtain ⟨fuel, hf⟩ := hd
  obtain ⟨A, c, z, e, h, hc⟩ := ents_of_trod Tryz.underlying56 hf hw
  exact ⟨A, c, z, slice_val Tryz.underlying56 hval e, h, hc⟩
end Go.Proofs.YtinpiodfpnbllaaGreatDoor

/- The law AuditEither: the walk. -/
namespace Go.Proofs.YtinpiodfpnbllaaGreatDoor
open Go.RowKit
set_option linter.unusedVariables false
set_option linter.unusedSimpArgs false

theorem boxes2_ (w : World) (c0 c1 z0 z1 : Array Value) (t0 t1 : TypeId) {W : World} (hW : W = ((((w.alloc (.cells z0 t0)).alloc (.cells z1 t1)).setRow w.heap.size c0).setRow (w.heap.size + 1) c1)) :
    Below w.heap.size w W ∧ Blk W w.heap.size t0 c0 ∧ Blk W (w.heap.size + 1) t1 c1 := by
  subst hW
  refine ⟨below_setRow (below_setRow (alloc2_bel w _ _) (Nat.le_refl _) _) (by omega) _, ?_, ?_⟩
  · exact (setRow_other _ _ _ _ (by omega)).trans ((blk_b0 w z0 t0 _).setRow c0)
  · have h1 : Blk (((w.alloc (.cells z0 t0)).alloc (.cells z1 t1)).setRow w.heap.size c0) (w.heap.size + 1) t1 z1 := (setRow_other _ _ _ _ (by omega)).trans (blk_b1 w _ z1 t1)
    exact h1.setRow c1
theorem blk_second_ (w : World) (c0 z0 z1 : Array Value) (t0 t1 : TypeId) : Blk (((w.alloc (.cells z0 t0)).alloc (.cells z1 t1)).setRow w.heap.size c0) (w.heap.size + 1) t1 z1 := (setRow_other _ _ _ _ (by omega)).trans (blk_b1 w _ z1 t1)
theorem onP_ok (es : List Ent) (u : Int) : Keys16 (onS es u).P ∧ (onS es u).P.length ≤ 1000000 := by
  unfold onS
  split
  · exact ⟨fun k hk => (by cases hk), by simp⟩
  · split
    · exact ⟨fun k hk => (by cases hk), by simp⟩
    · split
      · exact ⟨fun k hk => (by cases hk), by simp⟩
      · rename_i hv _ _
        have hl := validL_length (l := es) (by simpa using hv)
        have := leavesE_length es
        exact ⟨fun k hk => pathS_k16_ _ _ _ rfl k hk, by have := pathS_kle_ _ (leavesE es) (lowE (endedE es) u) rfl; simp only; omega⟩
theorem offP_ok (es : List Ent) (u : Int) : (Keys16 (offS es u).P ∧ (offS es u).P.length ≤ 1000000) ∧ (Keys16 (offS es u).P2 ∧ (offS es u).P2.length ≤ 1000000) := by
  unfold offS
  split
  · exact ⟨⟨fun k hk => (by cases hk), by simp [offZ]⟩, fun k hk => (by cases hk), by simp [offZ]⟩
  · split
    · exact ⟨⟨fun k hk => (by cases hk), by simp [offZ]⟩, fun k hk => (by cases hk), by simp [offZ]⟩
    · split
      · exact ⟨⟨fun k hk => (by cases hk), by simp [offZ]⟩, fun k hk => (by cases hk), by simp [offZ]⟩
      · rename_i hv _ _
        have hl := validL_length (l := es) (by simpa using hv)
        have := leavesE_length es
        exact ⟨⟨fun k hk => pathS_k16_ _ _ _ rfl k hk, by have := pathS_kle_ _ (leavesE es) (lowE (endedE es) u - 1) rfl; simp only; omega⟩, fun k hk => pathS_k16_ _ _ _ rfl k hk, by have := pathS_kle_ _ (leavesE es) (lowE (endedE es) u) rfl; simp only; omega⟩
theorem On_kr (es : List Ent) (u : Int) (A : Option Addr) (c : Nat) (w : World) {n : Nat} (hn : es.length = n) (h : ER w A c es) :
    Calls Tryz.prog 57 #[.slice A n c, .int .i64 u] w fun e w' => (∃ X x, e = .returned (.tuple #[.agg #[.int .i64 (onS es u).x.1, .int .i64 (onS es u).x.2], .agg #[.int .i64 (onS es u).a, .int .i64 (onS es u).b, .slice X (onS es u).P.length x], .int .i64 (onS es u).e]) ∧ KR w' X x (onS es u).P) ∧ Below w.heap.size w w' :=
  (ProveOn_any es u A c w hn h).mono fun e w' ⟨⟨X, x, he, ho⟩, hb⟩ => ⟨⟨X, x, he, ho.kr (onP_ok es u).1 (by have := (onP_ok es u).2; omega)⟩, hb⟩
theorem Off_kr (es : List Ent) (u : Int) (A : Option Addr) (c : Nat) (w : World) {n : Nat} (hn : es.length = n) (h : ER w A c es) :
    Calls Tryz.prog 58 #[.slice A n c, .int .i64 u] w fun e w' => (∃ X x Y y, e = .returned (.tuple #[.agg #[.int .i64 (offS es u).lo.1, .int .i64 (offS es u).lo.2, .int .i64 (offS es u).hi.1, .int .i64 (offS es u).hi.2, .int .i64 (offS es u).a, .int .i64 (offS es u).b, .slice X (offS es u).P.length x, .int .i64 (offS es u).a2, .int .i64 (offS es u).b2, .slice Y (offS es u).P2.length y], .int .i64 (offS es u).e]) ∧ KR w' X x (offS es u).P ∧ KR w' Y y (offS es u).P2) ∧ Below w.heap.size w w' :=
  (ProveOff_any es u A c w hn h).mono fun e w' ⟨⟨X, x, Y, y, he, ho, ho2⟩, hb⟩ => ⟨⟨X, x, Y, y, he, ho.kr (offP_ok es u).1.1 (by have := (offP_ok es u).1.2; omega), ho2.kr (offP_ok es u).2.1 (by have := (offP_ok es u).2.2; omega)⟩, hb⟩

set_option maxHeartbeats 4000000 in
set_option maxRecDepth 100000 in
theorem either_bad (es : List Ent) (A : Option Addr) (c : Nat) (u : Int) (w : World) {n : Nat} (hn : es.length = n) (h : ER w A c es) (HA : Hid (Calls Tryz.prog 25 #[] w fun e w' => e = .returned (.bool true) ∧ Below w.heap.size w w')) (e0 : Int) (he0 : (validL es = false ∧ e0 = 90) ∨ (validL es = true ∧ (u < 0 ∨ 64 ≤ u) ∧ e0 = 2)) :
    Calls Tryz.prog 16 #[.slice A n c, .int .i64 u] w fun e w' => e = .returned (.bool true) ∧ Below w.heap.size w w' := by
  have hnl : (n : Int) ≤ 140737488351232 := by have := h.len; omega
  have H1 : Hid (∀ W, Below w.heap.size w W → Calls Tryz.prog 57 #[.slice A n c, .int .i64 u] W fun e w' => (∃ X x, e = .returned (.tuple #[.agg #[.int .i64 (onS es u).x.1, .int .i64 (onS es u).x.2], .agg #[.int .i64 (onS es u).a, .int .i64 (onS es u).b, .slice X (onS es u).P.length x], .int .i64 (onS es u).e]) ∧ KR w' X x (onS es u).P) ∧ Below W.heap.size W w') := fun W hW => On_kr es u A c W hn (h.below hW)
  have H3 : Hid (∀ W, Below w.heap.size w W → Calls Tryz.prog 58 #[.slice A n c, .int .i64 u] W fun e w' => (∃ X x Y y, e = .returned (.tuple #[.agg #[.int .i64 (offS es u).lo.1, .int .i64 (offS es u).lo.2, .int .i64 (offS es u).hi.1, .int .i64 (offS es u).hi.2, .int .i64 (offS es u).a, .int .i64 (offS es u).b, .slice X (offS es u).P.length x, .int .i64 (offS es u).a2, .int .i64 (offS es u).b2, .slice Y (offS es u).P2.length y], .int .i64 (offS es u).e]) ∧ KR w' X x (offS es u).P ∧ KR w' Y y (offS es u).P2) ∧ Below W.heap.size W w') := fun W hW => Off_kr es u A c W hn (h.below hW)
  have q1 : (onS es u).e = e0 := by unfold onS; rcases he0 with ⟨h1, h2⟩ | ⟨h1, h2, h3⟩ <;> simp_all
  have q2 : (offS es u).e = e0 := by unfold offS offZ; rcases he0 with ⟨h1, h2⟩ | ⟨h1, h2, h3⟩ <;> simp_all
  rw [q1] at H1
  rw [q2] at H3
  clear q1 q2
  generalize onS es u = V1 at H1
  obtain ⟨⟨t0, t1⟩, p0, p1, P, e1⟩ := V1
  generalize offS es u = V at H3
  obtain ⟨⟨s0, s1⟩, ⟨s2, s3⟩, d0, d1, PY, d2, d3, PZ, f2⟩ := V
  dsimp only at H1 H3
  generalize P.length = k1 at H1
  generalize PY.length = n1 at H3
  generalize PZ.length = n2 at H3
  rcases he0 with ⟨h1, rfl⟩ | ⟨h1, h2, rfl⟩
  · have HK : Hid (∀ W, Below w.heap.size w W → Calls Tryz.prog 30 #[.slice A n c] W fun e w' => e = .returned (.int .i64 90) ∧ Below W.heap.size W w') := fun W hW => by
      have := checkList_any es A c W hn (h.below hW)
      rwa [h1] at this
    clear hn h h1
    go_enter Tryz.func16, Tryz.ntmps16
    go_wp2_with (first
      | (go_at_call 25; (with_reducible refine (HA.out).mono ?_); rintro e w1 ⟨rfl, hb⟩; have D1 := Lib.hid hb; clear hb)
      | (go_at_call 57; (with_reducible refine (H1.out _ D1.out).mono ?_); rintro e w2 ⟨⟨X, x, rfl, ho⟩, hb⟩; have D2 := Lib.hid (bel_on D1.out hb); have P2 := Lib.hid ho; clear hb ho)
      | (refine wpList_store_row rfl 98 (.tmp 6) (.tmp 24) rfl w2.heap.size #[.int .i64 t0, .int .i64 t1] rfl rfl 98 #[.int .i64 0, .int .i64 0] (blk_b0 w2 _ _ _) (by kernel_rfl) rfl (by simp [Value.oneCell']) ?_)
      | (refine wpList_store_row rfl 27 (.tmp 7) (.tmp 25) rfl (w2.heap.size + 1) #[.int .i64 p0, .int .i64 p1, .slice X k1 x] rfl rfl 27 #[.int .i64 0, .int .i64 0, .slice none 0 0] (blk_second_ w2 _ _ _ _ _) (by kernel_rfl) rfl (by simp [Value.oneCell']) ?_; obtain ⟨w3, hV⟩ : ∃ W, W = ((((w2.alloc (.cells #[.int .i64 0, .int .i64 0] 98)).alloc (.cells #[.int .i64 0, .int .i64 0, .slice none 0 0] 27)).setRow w2.heap.size #[.int .i64 t0, .int .i64 t1]).setRow (w2.heap.size + 1) #[.int .i64 p0, .int .i64 p1, .slice X k1 x]) := ⟨_, rfl⟩; rw [← hV]; obtain ⟨hb, nb, mb⟩ := boxes2_ _ _ _ _ _ _ _ hV; have D3 := Lib.hid (bel_on D2.out hb); have P3 := Lib.hid (P2.out.below hb); have N3 := Lib.hid nb; have M3 := Lib.hid mb; clear hV hb nb mb)
      | (go_at_call 58; (with_reducible refine (H3.out _ D3.out).mono ?_); rintro e w4 ⟨⟨Y, y, Z, z, rfl, ho, ho2⟩, hb⟩; have D4 := Lib.hid (bel_on D3.out hb); have P4 := Lib.hid (P3.out.below hb); have N4 := Lib.hid (N3.out.below' hb); have M4 := Lib.hid (M3.out.below' hb); have Y4 := Lib.hid ho; have Z4 := Lib.hid ho2; clear hb ho ho2)
      | (refine wpList_store_row rfl 100 (.tmp 9) (.tmp 31) rfl w4.heap.size #[.int .i64 s0, .int .i64 s1, .int .i64 s2, .int .i64 s3, .int .i64 d0, .int .i64 d1, .slice Y n1 y, .int .i64 d2, .int .i64 d3, .slice Z n2 z] rfl rfl 100 #[.int .i64 0, .int .i64 0, .int .i64 0, .int .i64 0, .int .i64 0, .int .i64 0, .slice none 0 0, .int .i64 0, .int .i64 0, .slice none 0 0] (Blk.new w4 _ _) (by kernel_rfl) rfl (by simp [Value.oneCell']) ?_; obtain ⟨w5, hV⟩ : ∃ W, W = (w4.alloc (.cells #[.int .i64 0, .int .i64 0, .int .i64 0, .int .i64 0, .int .i64 0, .int .i64 0, .slice none 0 0, .int .i64 0, .int .i64 0, .slice none 0 0] 100)).setRow w4.heap.size #[.int .i64 s0, .int .i64 s1, .int .i64 s2, .int .i64 s3, .int .i64 d0, .int .i64 d1, .slice Y n1 y, .int .i64 d2, .int .i64 d3, .slice Z n2 z] := ⟨_, rfl⟩; rw [← hV]; obtain ⟨hb, nb⟩ := keybox2_ _ _ _ _ hV; have D5 := Lib.hid (bel_on D4.out hb); have P5 := Lib.hid (P4.out.below hb); have N5 := Lib.hid (N4.out.below' hb); have M5 := Lib.hid (M4.out.below' hb); have Y5 := Lib.hid (Y4.out.below hb); have Z5 := Lib.hid (Z4.out.below hb); have A5 := Lib.hid nb; clear hV hb nb)
      | (go_at_call 30; (with_reducible refine (HK.out _ D5.out).mono ?_); rintro e w6 ⟨rfl, hb⟩; have D6 := Lib.hid (bel_on D5.out hb); have P6 := Lib.hid (P5.out.below hb); have N6 := Lib.hid (N5.out.below' hb); have M6 := Lib.hid (M5.out.below' hb); have Y6 := Lib.hid (Y5.out.below hb); have Z6 := Lib.hid (Z5.out.below hb); have A6 := Lib.hid (A5.out.below' hb); clear hb))
    go_ret
    exact ⟨rfl, D6.out⟩
  · have HK : Hid (∀ W, Below w.heap.size w W → Calls Tryz.prog 30 #[.slice A n c] W fun e w' => e = .returned (.int .i64 0) ∧ Below W.heap.size W w') := fun W hW => by
      have := checkList_any es A c W hn (h.below hW)
      rwa [h1] at this
    clear hn h h1
    go_enter Tryz.func16, Tryz.ntmps16
    go_wp2_with (first
      | (go_at_call 25; (with_reducible refine (HA.out).mono ?_); rintro e w1 ⟨rfl, hb⟩; have D1 := Lib.hid hb; clear hb)
      | (go_at_call 57; (with_reducible refine (H1.out _ D1.out).mono ?_); rintro e w2 ⟨⟨X, x, rfl, ho⟩, hb⟩; have D2 := Lib.hid (bel_on D1.out hb); have P2 := Lib.hid ho; clear hb ho)
      | (refine wpList_store_row rfl 98 (.tmp 6) (.tmp 24) rfl w2.heap.size #[.int .i64 t0, .int .i64 t1] rfl rfl 98 #[.int .i64 0, .int .i64 0] (blk_b0 w2 _ _ _) (by kernel_rfl) rfl (by simp [Value.oneCell']) ?_)
      | (refine wpList_store_row rfl 27 (.tmp 7) (.tmp 25) rfl (w2.heap.size + 1) #[.int .i64 p0, .int .i64 p1, .slice X k1 x] rfl rfl 27 #[.int .i64 0, .int .i64 0, .slice none 0 0] (blk_second_ w2 _ _ _ _ _) (by kernel_rfl) rfl (by simp [Value.oneCell']) ?_; obtain ⟨w3, hV⟩ : ∃ W, W = ((((w2.alloc (.cells #[.int .i64 0, .int .i64 0] 98)).alloc (.cells #[.int .i64 0, .int .i64 0, .slice none 0 0] 27)).setRow w2.heap.size #[.int .i64 t0, .int .i64 t1]).setRow (w2.heap.size + 1) #[.int .i64 p0, .int .i64 p1, .slice X k1 x]) := ⟨_, rfl⟩; rw [← hV]; obtain ⟨hb, nb, mb⟩ := boxes2_ _ _ _ _ _ _ _ hV; have D3 := Lib.hid (bel_on D2.out hb); have P3 := Lib.hid (P2.out.below hb); have N3 := Lib.hid nb; have M3 := Lib.hid mb; clear hV hb nb mb)
      | (go_at_call 58; (with_reducible refine (H3.out _ D3.out).mono ?_); rintro e w4 ⟨⟨Y, y, Z, z, rfl, ho, ho2⟩, hb⟩; have D4 := Lib.hid (bel_on D3.out hb); have P4 := Lib.hid (P3.out.below hb); have N4 := Lib.hid (N3.out.below' hb); have M4 := Lib.hid (M3.out.below' hb); have Y4 := Lib.hid ho; have Z4 := Lib.hid ho2; clear hb ho ho2)
      | (refine wpList_store_row rfl 100 (.tmp 9) (.tmp 31) rfl w4.heap.size #[.int .i64 s0, .int .i64 s1, .int .i64 s2, .int .i64 s3, .int .i64 d0, .int .i64 d1, .slice Y n1 y, .int .i64 d2, .int .i64 d3, .slice Z n2 z] rfl rfl 100 #[.int .i64 0, .int .i64 0, .int .i64 0, .int .i64 0, .int .i64 0, .int .i64 0, .slice none 0 0, .int .i64 0, .int .i64 0, .slice none 0 0] (Blk.new w4 _ _) (by kernel_rfl) rfl (by simp [Value.oneCell']) ?_; obtain ⟨w5, hV⟩ : ∃ W, W = (w4.alloc (.cells #[.int .i64 0, .int .i64 0, .int .i64 0, .int .i64 0, .int .i64 0, .int .i64 0, .slice none 0 0, .int .i64 0, .int .i64 0, .slice none 0 0] 100)).setRow w4.heap.size #[.int .i64 s0, .int .i64 s1, .int .i64 s2, .int .i64 s3, .int .i64 d0, .int .i64 d1, .slice Y n1 y, .int .i64 d2, .int .i64 d3, .slice Z n2 z] := ⟨_, rfl⟩; rw [← hV]; obtain ⟨hb, nb⟩ := keybox2_ _ _ _ _ hV; have D5 := Lib.hid (bel_on D4.out hb); have P5 := Lib.hid (P4.out.below hb); have N5 := Lib.hid (N4.out.below' hb); have M5 := Lib.hid (M4.out.below' hb); have Y5 := Lib.hid (Y4.out.below hb); have Z5 := Lib.hid (Z4.out.below hb); have A5 := Lib.hid nb; clear hV hb nb)
      | (go_at_call 30; (with_reducible refine (HK.out _ D5.out).mono ?_); rintro e w6 ⟨rfl, hb⟩; have D6 := Lib.hid (bel_on D5.out hb); have P6 := Lib.hid (P5.out.below hb); have N6 := Lib.hid (N5.out.below' hb); have M6 := Lib.hid (M5.out.below' hb); have Y6 := Lib.hid (Y5.out.below hb); have Z6 := Lib.hid (Z5.out.below hb); have A6 := Lib.hid (A5.out.below' hb); clear hb))
    all_goals first | omega | (go_ret; exact ⟨rfl, D6.out⟩)

set_option maxHeartbeats 8000000 in
set_option maxRecDepth 100000 in
theorem either_isoff (es : List Ent) (A : Option Addr) (c : Nat) (u : Int) (w : World) {n : Nat} (hn : es.length = n) (h : ER w A c es) (HA : Hid (Calls Tryz.prog 25 #[] w fun e w' => e = .returned (.bool true) ∧ Below w.heap.size w w')) (hv : validL es = true) (h0 : 0 ≤ u) (h1 : u < 64) (hh : hitE (endedE es) u = false) :
    Calls Tryz.prog 16 #[.slice A n c, .int .i64 u] w fun e w' => e = .returned (.bool true) ∧ Below w.heap.size w w' := by
  have hnl : (n : Int) ≤ 140737488351232 := by have := h.len; omega
  have H1 : Hid (∀ W, Below w.heap.size w W → Calls Tryz.prog 57 #[.slice A n c, .int .i64 u] W fun e w' => (∃ X x, e = .returned (.tuple #[.agg #[.int .i64 (onS es u).x.1, .int .i64 (onS es u).x.2], .agg #[.int .i64 (onS es u).a, .int .i64 (onS es u).b, .slice X (onS es u).P.length x], .int .i64 (onS es u).e]) ∧ KR w' X x (onS es u).P) ∧ Below W.heap.size W w') := fun W hW => On_kr es u A c W hn (h.below hW)
  have H3 : Hid (∀ W, Below w.heap.size w W → Calls Tryz.prog 58 #[.slice A n c, .int .i64 u] W fun e w' => (∃ X x Y y, e = .returned (.tuple #[.agg #[.int .i64 (offS es u).lo.1, .int .i64 (offS es u).lo.2, .int .i64 (offS es u).hi.1, .int .i64 (offS es u).hi.2, .int .i64 (offS es u).a, .int .i64 (offS es u).b, .slice X (offS es u).P.length x, .int .i64 (offS es u).a2, .int .i64 (offS es u).b2, .slice Y (offS es u).P2.length y], .int .i64 (offS es u).e]) ∧ KR w' X x (offS es u).P ∧ KR w' Y y (offS es u).P2) ∧ Below W.heap.size W w') := fun W hW => Off_kr es u A c W hn (h.below hW)
  have HK : Hid (∀ W, Below w.heap.size w W → Calls Tryz.prog 30 #[.slice A n c] W fun e w' => e = .returned (.int .i64 0) ∧ Below W.heap.size W w') := fun W hW => by
    have := checkList_any es A c W hn (h.below hW)
    rwa [hv] at this
  have HL : Hid (∀ W, Below w.heap.size w W → Calls Tryz.prog 53 #[.slice A n c] W fun e w' => e = .returned (.tuple #[.agg (cellsB (rootS (leavesE es))).toArray, .int .i64 0]) ∧ Below W.heap.size W w') := fun W hW => by
    have := ListRoot_any es A c W hn (h.below hW)
    have e1 : lrS es = (rootS (leavesE es), 0) := by unfold lrS; rw [if_neg (by rw [hv]; simp)]
    rwa [e1] at this
  have HRL : Hid ((rootS (leavesE es)).length = 16) := rootS_length _
  have HU : Hid (∀ W, Below w.heap.size w W → Calls Tryz.prog 32 #[.slice A n c, .int .i64 u] W fun e w' => e = .returned (.int .i64 (untilS es u)) ∧ Below W.heap.size W w') := fun W hW => lawUntil_any es u A c W hn (h.below hW)
  obtain ⟨q1, q2, q3, q4⟩ := either_off hv h0 h1 hh
  have HVO : Hid (∀ W Y y Z z, KR W Y y (offS es u).P → KR W Z z (offS es u).P2 → Calls Tryz.prog 54 #[.agg (cellsB (rootS (leavesE es))).toArray, .int .i64 u, .agg #[.int .i64 (offS es u).lo.1, .int .i64 (offS es u).lo.2, .int .i64 (offS es u).hi.1, .int .i64 (offS es u).hi.2, .int .i64 (offS es u).a, .int .i64 (offS es u).b, .slice Y (offS es u).P.length y, .int .i64 (offS es u).a2, .int .i64 (offS es u).b2, .slice Z (offS es u).P2.length z]] W fun e w' => e = .returned (.tuple #[.bool true, .int .i64 0]) ∧ Below W.heap.size W w') := fun W Y y Z z r1 r2 => by
    have := VerifyOff_any (rootS (leavesE es)) u (offS es u).lo.1 (offS es u).lo.2 (offS es u).hi.1 (offS es u).hi.2 (offS es u).a (offS es u).b (offS es u).a2 (offS es u).b2 (offS es u).P (offS es u).P2 Y Z y z W (rootS_length _) rfl rfl r1 r2
    rwa [q4] at this
  rw [q1] at H1
  rw [q3] at H3
  clear q1 q3 q4
  generalize offS es u = V at H3 HVO
  obtain ⟨⟨s0, s1⟩, ⟨s2, s3⟩, d0, d1, PY, d2, d3, PZ, f2⟩ := V
  dsimp only at H1 H3 HVO
  generalize PY.length = n1 at H3 HVO
  generalize PZ.length = n2 at H3 HVO
  generalize rootS (leavesE es) = R at HL HRL HVO
  generalize untilS es u = t at HU q2
  clear hn h hv hh
  go_enter Tryz.func16, Tryz.ntmps16
  go_wp2_with (first
    | (go_at_call 25; (with_reducible refine (HA.out).mono ?_); rintro e w1 ⟨rfl, hb⟩; have D1 := Lib.hid hb; clear hb)
    | (go_at_call 57; (with_reducible refine (H1.out _ D1.out).mono ?_); rintro e w2 ⟨⟨X, x, rfl, ho⟩, hb⟩; have D2 := Lib.hid (bel_on D1.out hb); have P2 := Lib.hid ho; clear hb ho)
    | (refine wpList_store_row rfl 98 (.tmp 6) (.tmp 24) rfl w2.heap.size #[.int .i64 0, .int .i64 0] rfl rfl 98 #[.int .i64 0, .int .i64 0] (blk_b0 w2 _ _ _) (by kernel_rfl) rfl (by simp [Value.oneCell']) ?_)
    | (refine wpList_store_row rfl 27 (.tmp 7) (.tmp 25) rfl (w2.heap.size + 1) #[.int .i64 0, .int .i64 0, .slice X 0 x] rfl rfl 27 #[.int .i64 0, .int .i64 0, .slice none 0 0] (blk_second_ w2 _ _ _ _ _) (by kernel_rfl) rfl (by simp [Value.oneCell']) ?_; obtain ⟨w3, hV⟩ : ∃ W, W = ((((w2.alloc (.cells #[.int .i64 0, .int .i64 0] 98)).alloc (.cells #[.int .i64 0, .int .i64 0, .slice none 0 0] 27)).setRow w2.heap.size #[.int .i64 0, .int .i64 0]).setRow (w2.heap.size + 1) #[.int .i64 0, .int .i64 0, .slice X 0 x]) := ⟨_, rfl⟩; rw [← hV]; obtain ⟨hb, nb, mb⟩ := boxes2_ _ _ _ _ _ _ _ hV; have D3 := Lib.hid (bel_on D2.out hb); have P3 := Lib.hid (P2.out.below hb); have N3 := Lib.hid nb; have M3 := Lib.hid mb; clear hV hb nb mb)
    | (go_at_call 58; (with_reducible refine (H3.out _ D3.out).mono ?_); rintro e w4 ⟨⟨Y, y, Z, z, rfl, ho, ho2⟩, hb⟩; have D4 := Lib.hid (bel_on D3.out hb); have P4 := Lib.hid (P3.out.below hb); have N4 := Lib.hid (N3.out.below' hb); have M4 := Lib.hid (M3.out.below' hb); have Y4 := Lib.hid ho; have Z4 := Lib.hid ho2; clear hb ho ho2)
    | (refine wpList_store_row rfl 100 (.tmp 9) (.tmp 31) rfl w4.heap.size #[.int .i64 s0, .int .i64 s1, .int .i64 s2, .int .i64 s3, .int .i64 d0, .int .i64 d1, .slice Y n1 y, .int .i64 d2, .int .i64 d3, .slice Z n2 z] rfl rfl 100 #[.int .i64 0, .int .i64 0, .int .i64 0, .int .i64 0, .int .i64 0, .int .i64 0, .slice none 0 0, .int .i64 0, .int .i64 0, .slice none 0 0] (Blk.new w4 _ _) (by kernel_rfl) rfl (by simp [Value.oneCell']) ?_; obtain ⟨w5, hV⟩ : ∃ W, W = (w4.alloc (.cells #[.int .i64 0, .int .i64 0, .int .i64 0, .int .i64 0, .int .i64 0, .int .i64 0, .slice none 0 0, .int .i64 0, .int .i64 0, .slice none 0 0] 100)).setRow w4.heap.size #[.int .i64 s0, .int .i64 s1, .int .i64 s2, .int .i64 s3, .int .i64 d0, .int .i64 d1, .slice Y n1 y, .int .i64 d2, .int .i64 d3, .slice Z n2 z] := ⟨_, rfl⟩; rw [← hV]; obtain ⟨hb, nb⟩ := keybox2_ _ _ _ _ hV; have D5 := Lib.hid (bel_on D4.out hb); have P5 := Lib.hid (P4.out.below hb); have N5 := Lib.hid (N4.out.below' hb); have M5 := Lib.hid (M4.out.below' hb); have Y5 := Lib.hid (Y4.out.below hb); have Z5 := Lib.hid (Z4.out.below hb); have A5 := Lib.hid nb; clear hV hb nb)
    | (go_at_call 30; (with_reducible refine (HK.out _ D5.out).mono ?_); rintro e w6 ⟨rfl, hb⟩; have D6 := Lib.hid (bel_on D5.out hb); have P6 := Lib.hid (P5.out.below hb); have N6 := Lib.hid (N5.out.below' hb); have M6 := Lib.hid (M5.out.below' hb); have Y6 := Lib.hid (Y5.out.below hb); have Z6 := Lib.hid (Z5.out.below hb); have A6 := Lib.hid (A5.out.below' hb); clear hb)
    | (go_at_call 53; (with_reducible refine (HL.out _ D6.out).mono ?_); rintro e w7 ⟨rfl, hb⟩; have D7 := Lib.hid (bel_on D6.out hb); have P7 := Lib.hid (P6.out.below hb); have Y7 := Lib.hid (Y6.out.below hb); have Z7 := Lib.hid (Z6.out.below hb); have N7 := Lib.hid (N6.out.below' hb); have M7 := Lib.hid (M6.out.below' hb); have A7 := Lib.hid (A6.out.below' hb); clear hb)
    | ((first | rw [zero16] | skip); refine wpList_store_row rfl 24 (.tmp 11) (.tmp 61) rfl w7.heap.size (cellsB R).toArray rfl rfl 24 (cellsB zeroK).toArray (Blk.new w7 _ _) (cellsB_size _ HRL.out) (cellsB_sizes _ _ zeroK_length HRL.out) (cellsB_all _) ?_; obtain ⟨w8, hV⟩ : ∃ W, W = (w7.alloc (.cells (cellsB zeroK).toArray 24)).setRow w7.heap.size (cellsB R).toArray := ⟨_, rfl⟩; rw [← hV]; obtain ⟨hb, nb⟩ := keybox2_ _ _ _ _ hV; have D8 := Lib.hid (bel_on D7.out hb); have P8 := Lib.hid (P7.out.below hb); have Y8 := Lib.hid (Y7.out.below hb); have Z8 := Lib.hid (Z7.out.below hb); have N8 := Lib.hid (N7.out.below' hb); have M8 := Lib.hid (M7.out.below' hb); have A8 := Lib.hid (A7.out.below' hb); have R8 := Lib.hid nb; clear hV hb nb)
    | (go_at_call 32; (with_reducible refine (HU.out _ D8.out).mono ?_); rintro e w9 ⟨rfl, hb⟩; have D9 := Lib.hid (bel_on D8.out hb); have P9 := Lib.hid (P8.out.below hb); have Y9 := Lib.hid (Y8.out.below hb); have Z9 := Lib.hid (Z8.out.below hb); have N9 := Lib.hid (N8.out.below' hb); have M9 := Lib.hid (M8.out.below' hb); have A9 := Lib.hid (A8.out.below' hb); have R9 := Lib.hid (R8.out.below' hb); clear hb)
    | (refine wpList_load_row rfl 24 (.tmp 11) rfl w7.heap.size rfl 24 (cellsB R).toArray (0, 0) _ R9.out under_key rfl (cellsB_size _ HRL.out) ?_)
    | (refine wpList_load_row rfl 100 (.tmp 9) rfl w4.heap.size rfl 100 #[.int .i64 s0, .int .i64 s1, .int .i64 s2, .int .i64 s3, .int .i64 d0, .int .i64 d1, .slice Y n1 y, .int .i64 d2, .int .i64 d3, .slice Z n2 z] (0, 0) _ A9.out Tryz.underlying100 rfl (by kernel_rfl) ?_)
    | (go_at_call 54; (with_reducible refine (HVO.out _ _ _ _ _ Y9.out Z9.out).mono ?_); rintro e w10 ⟨rfl, hb⟩; have D10 := Lib.hid (bel_on D9.out hb); clear hb))
  all_goals first | omega | (go_ret; exact ⟨rfl, D10.out⟩)

set_option maxHeartbeats 8000000 in
set_option maxRecDepth 100000 in
theorem either_ison (es : List Ent) (A : Option Addr) (c : Nat) (u : Int) (w : World) {n : Nat} (hn : es.length = n) (h : ER w A c es) (HA : Hid (Calls Tryz.prog 25 #[] w fun e w' => e = .returned (.bool true) ∧ Below w.heap.size w w')) (hv : validL es = true) (h0 : 0 ≤ u) (h1 : u < 64) (hh : hitE (endedE es) u = true) :
    Calls Tryz.prog 16 #[.slice A n c, .int .i64 u] w fun e w' => e = .returned (.bool true) ∧ Below w.heap.size w w' := by
  have hnl : (n : Int) ≤ 140737488351232 := by have := h.len; omega
  have H1 : Hid (∀ W, Below w.heap.size w W → Calls Tryz.prog 57 #[.slice A n c, .int .i64 u] W fun e w' => (∃ X x, e = .returned (.tuple #[.agg #[.int .i64 (onS es u).x.1, .int .i64 (onS es u).x.2], .agg #[.int .i64 (onS es u).a, .int .i64 (onS es u).b, .slice X (onS es u).P.length x], .int .i64 (onS es u).e]) ∧ KR w' X x (onS es u).P) ∧ Below W.heap.size W w') := fun W hW => On_kr es u A c W hn (h.below hW)
  have H3 : Hid (∀ W, Below w.heap.size w W → Calls Tryz.prog 58 #[.slice A n c, .int .i64 u] W fun e w' => (∃ X x Y y, e = .returned (.tuple #[.agg #[.int .i64 (offS es u).lo.1, .int .i64 (offS es u).lo.2, .int .i64 (offS es u).hi.1, .int .i64 (offS es u).hi.2, .int .i64 (offS es u).a, .int .i64 (offS es u).b, .slice X (offS es u).P.length x, .int .i64 (offS es u).a2, .int .i64 (offS es u).b2, .slice Y (offS es u).P2.length y], .int .i64 (offS es u).e]) ∧ KR w' X x (offS es u).P ∧ KR w' Y y (offS es u).P2) ∧ Below W.heap.size W w') := fun W hW => Off_kr es u A c W hn (h.below hW)
  have HK : Hid (∀ W, Below w.heap.size w W → Calls Tryz.prog 30 #[.slice A n c] W fun e w' => e = .returned (.int .i64 0) ∧ Below W.heap.size W w') := fun W hW => by
    have := checkList_any es A c W hn (h.below hW)
    rwa [hv] at this
  have HL : Hid (∀ W, Below w.heap.size w W → Calls Tryz.prog 53 #[.slice A n c] W fun e w' => e = .returned (.tuple #[.agg (cellsB (rootS (leavesE es))).toArray, .int .i64 0]) ∧ Below W.heap.size W w') := fun W hW => by
    have := ListRoot_any es A c W hn (h.below hW)
    have e1 : lrS es = (rootS (leavesE es), 0) := by unfold lrS; rw [if_neg (by rw [hv]; simp)]
    rwa [e1] at this
  have HRL : Hid ((rootS (leavesE es)).length = 16) := rootS_length _
  have HU : Hid (∀ W, Below w.heap.size w W → Calls Tryz.prog 32 #[.slice A n c, .int .i64 u] W fun e w' => e = .returned (.int .i64 (untilS es u)) ∧ Below W.heap.size W w') := fun W hW => lawUntil_any es u A c W hn (h.below hW)
  obtain ⟨q1, q2, q3, q4, q5⟩ := either_on hv h0 h1 hh
  have hlen := validL_length hv
  have hn64 : (n : Int) ≤ 64 := by omega
  have HLF : Hid (∀ W, Calls Tryz.prog 55 #[.agg #[.int .i64 u, .int .i64 (untilS es u)]] W fun e w' => e = .returned (.tuple #[.agg (cellsB (leafE (u, untilS es u))).toArray, .int .i64 0]) ∧ Below W.heap.size W w') := fun W => by
    have := Leaf_any u (untilS es u) W
    rwa [q4] at this
  have HGL : Hid ((leafE (u, untilS es u)).length = 16) := rfl
  have hcast : ((es.length + 2 : Nat) : Int) = (n : Int) + 2 := by omega
  rw [hcast] at q1 q5
  have HV : Hid (∀ W X x, KR W X x (pathS (leavesE es) (lowE (endedE es) u)) → Calls Tryz.prog 28 #[.agg (cellsB (rootS (leavesE es))).toArray, .agg (cellsB (leafE (u, untilS es u))).toArray, .agg #[.int .i64 ((n : Int) + 2), .int .i64 (lowE (endedE es) u : Int), .slice X (pathS (leavesE es) (lowE (endedE es) u)).length x]] W fun e w' => e = .returned (.tuple #[.bool true, .int .i64 0]) ∧ Below W.heap.size W w') := fun W X x r1 => by
    have := Verify_any (rootS (leavesE es)) (leafE (u, untilS es u)) ((n : Int) + 2) (lowE (endedE es) u : Int) _ X x W rfl (rootS_length _) rfl r1
    rwa [q5] at this
  rw [q1] at H1
  rw [q2] at H3
  unfold offZ at H3
  clear q1 q2 q4 q5 hcast hlen
  generalize pathS (leavesE es) (lowE (endedE es) u) = P at H1 HV
  dsimp only at H1 H3 HV
  generalize P.length = k1 at H1 HV
  generalize rootS (leavesE es) = R at HL HRL HV
  generalize leafE (u, untilS es u) = g at HLF HGL HV
  generalize untilS es u = t at HU q3 HLF H1
  generalize (lowE (endedE es) u : Int) = p1 at H1 HV
  clear hn h hv hh
  go_enter Tryz.func16, Tryz.ntmps16
  go_wp2_with (first
    | (go_at_call 25; (with_reducible refine (HA.out).mono ?_); rintro e w1 ⟨rfl, hb⟩; have D1 := Lib.hid hb; clear hb)
    | (go_at_call 57; (with_reducible refine (H1.out _ D1.out).mono ?_); rintro e w2 ⟨⟨X, x, rfl, ho⟩, hb⟩; have D2 := Lib.hid (bel_on D1.out hb); have P2 := Lib.hid ho; clear hb ho)
    | (refine wpList_store_row rfl 98 (.tmp 6) (.tmp 24) rfl w2.heap.size #[.int .i64 u, .int .i64 t] rfl rfl 98 #[.int .i64 0, .int .i64 0] (blk_b0 w2 _ _ _) (by kernel_rfl) rfl (by simp [Value.oneCell']) ?_)
    | (refine wpList_store_row rfl 27 (.tmp 7) (.tmp 25) rfl (w2.heap.size + 1) #[.int .i64 ((n : Int) + 2), .int .i64 p1, .slice X k1 x] rfl rfl 27 #[.int .i64 0, .int .i64 0, .slice none 0 0] (blk_second_ w2 _ _ _ _ _) (by kernel_rfl) rfl (by simp [Value.oneCell']) ?_; obtain ⟨w3, hV⟩ : ∃ W, W = ((((w2.alloc (.cells #[.int .i64 0, .int .i64 0] 98)).alloc (.cells #[.int .i64 0, .int .i64 0, .slice none 0 0] 27)).setRow w2.heap.size #[.int .i64 u, .int .i64 t]).setRow (w2.heap.size + 1) #[.int .i64 ((n : Int) + 2), .int .i64 p1, .slice X k1 x]) := ⟨_, rfl⟩; rw [← hV]; obtain ⟨hb, nb, mb⟩ := boxes2_ _ _ _ _ _ _ _ hV; have D3 := Lib.hid (bel_on D2.out hb); have P3 := Lib.hid (P2.out.below hb); have N3 := Lib.hid nb; have M3 := Lib.hid mb; clear hV hb nb mb)
    | (go_at_call 58; (with_reducible refine (H3.out _ D3.out).mono ?_); rintro e w4 ⟨⟨Y, y, Z, z, rfl, ho, ho2⟩, hb⟩; have D4 := Lib.hid (bel_on D3.out hb); have P4 := Lib.hid (P3.out.below hb); have N4 := Lib.hid (N3.out.below' hb); have M4 := Lib.hid (M3.out.below' hb); have Y4 := Lib.hid ho; have Z4 := Lib.hid ho2; clear hb ho ho2)
    | (refine wpList_store_row rfl 100 (.tmp 9) (.tmp 31) rfl w4.heap.size #[.int .i64 0, .int .i64 0, .int .i64 0, .int .i64 0, .int .i64 0, .int .i64 0, .slice Y 0 y, .int .i64 0, .int .i64 0, .slice Z 0 z] rfl rfl 100 #[.int .i64 0, .int .i64 0, .int .i64 0, .int .i64 0, .int .i64 0, .int .i64 0, .slice none 0 0, .int .i64 0, .int .i64 0, .slice none 0 0] (Blk.new w4 _ _) (by kernel_rfl) rfl (by simp [Value.oneCell']) ?_; obtain ⟨w5, hV⟩ : ∃ W, W = (w4.alloc (.cells #[.int .i64 0, .int .i64 0, .int .i64 0, .int .i64 0, .int .i64 0, .int .i64 0, .slice none 0 0, .int .i64 0, .int .i64 0, .slice none 0 0] 100)).setRow w4.heap.size #[.int .i64 0, .int .i64 0, .int .i64 0, .int .i64 0, .int .i64 0, .int .i64 0, .slice Y 0 y, .int .i64 0, .int .i64 0, .slice Z 0 z] := ⟨_, rfl⟩; rw [← hV]; obtain ⟨hb, nb⟩ := keybox2_ _ _ _ _ hV; have D5 := Lib.hid (bel_on D4.out hb); have P5 := Lib.hid (P4.out.below hb); have N5 := Lib.hid (N4.out.below' hb); have M5 := Lib.hid (M4.out.below' hb); have Y5 := Lib.hid (Y4.out.below hb); have Z5 := Lib.hid (Z4.out.below hb); have A5 := Lib.hid nb; clear hV hb nb)
    | (go_at_call 30; (with_reducible refine (HK.out _ D5.out).mono ?_); rintro e w6 ⟨rfl, hb⟩; have D6 := Lib.hid (bel_on D5.out hb); have P6 := Lib.hid (P5.out.below hb); have N6 := Lib.hid (N5.out.below' hb); have M6 := Lib.hid (M5.out.below' hb); have Y6 := Lib.hid (Y5.out.below hb); have Z6 := Lib.hid (Z5.out.below hb); have A6 := Lib.hid (A5.out.below' hb); clear hb)
    | (go_at_call 53; (with_reducible refine (HL.out _ D6.out).mono ?_); rintro e w7 ⟨rfl, hb⟩; have D7 := Lib.hid (bel_on D6.out hb); have P7 := Lib.hid (P6.out.below hb); have Y7 := Lib.hid (Y6.out.below hb); have Z7 := Lib.hid (Z6.out.below hb); have N7 := Lib.hid (N6.out.below' hb); have M7 := Lib.hid (M6.out.below' hb); have A7 := Lib.hid (A6.out.below' hb); clear hb)
    | ((first | rw [zero16] | skip); refine wpList_store_row rfl 24 (.tmp 11) (.tmp 61) rfl w7.heap.size (cellsB R).toArray rfl rfl 24 (cellsB zeroK).toArray (Blk.new w7 _ _) (cellsB_size _ HRL.out) (cellsB_sizes _ _ zeroK_length HRL.out) (cellsB_all _) ?_; obtain ⟨w8, hV⟩ : ∃ W, W = (w7.alloc (.cells (cellsB zeroK).toArray 24)).setRow w7.heap.size (cellsB R).toArray := ⟨_, rfl⟩; rw [← hV]; obtain ⟨hb, nb⟩ := keybox2_ _ _ _ _ hV; have D8 := Lib.hid (bel_on D7.out hb); have P8 := Lib.hid (P7.out.below hb); have Y8 := Lib.hid (Y7.out.below hb); have Z8 := Lib.hid (Z7.out.below hb); have N8 := Lib.hid (N7.out.below' hb); have M8 := Lib.hid (M7.out.below' hb); have A8 := Lib.hid (A7.out.below' hb); have R8 := Lib.hid nb; clear hV hb nb)
    | (go_at_call 32; (with_reducible refine (HU.out _ D8.out).mono ?_); rintro e w9 ⟨rfl, hb⟩; have D9 := Lib.hid (bel_on D8.out hb); have P9 := Lib.hid (P8.out.below hb); have Y9 := Lib.hid (Y8.out.below hb); have Z9 := Lib.hid (Z8.out.below hb); have N9 := Lib.hid (N8.out.below' hb); have M9 := Lib.hid (M8.out.below' hb); have A9 := Lib.hid (A8.out.below' hb); have R9 := Lib.hid (R8.out.below' hb); clear hb)
    | (refine wpList_load_row rfl 98 (.tmp 6) rfl w2.heap.size rfl 98 #[.int .i64 u, .int .i64 t] (0, 0) _ N9.out Tryz.underlying98 rfl (by kernel_rfl) ?_)
    | (go_at_call 55; (with_reducible refine (HLF.out _).mono ?_); rintro e w10 ⟨rfl, hb⟩; have D10 := Lib.hid (bel_on D9.out hb); have P10 := Lib.hid (P9.out.below hb); have N10 := Lib.hid (N9.out.below' hb); have M10 := Lib.hid (M9.out.below' hb); have R10 := Lib.hid (R9.out.below' hb); clear hb)
    | ((first | rw [zero16] | skip); refine wpList_store_row rfl 24 (.tmp 15) (.tmp 95) rfl w10.heap.size (cellsB g).toArray rfl rfl 24 (cellsB zeroK).toArray (Blk.new w10 _ _) (cellsB_size _ HGL.out) (cellsB_sizes _ _ zeroK_length HGL.out) (cellsB_all _) ?_; obtain ⟨w11, hV⟩ : ∃ W, W = (w10.alloc (.cells (cellsB zeroK).toArray 24)).setRow w10.heap.size (cellsB g).toArray := ⟨_, rfl⟩; rw [← hV]; obtain ⟨hb, nb⟩ := keybox2_ _ _ _ _ hV; have D11 := Lib.hid (bel_on D10.out hb); have P11 := Lib.hid (P10.out.below hb); have N11 := Lib.hid (N10.out.below' hb); have M11 := Lib.hid (M10.out.below' hb); have R11 := Lib.hid (R10.out.below' hb); have G11 := Lib.hid nb; clear hV hb nb)
    | (refine wpList_load_row rfl 24 (.tmp 11) rfl w7.heap.size rfl 24 (cellsB R).toArray (0, 0) _ R11.out under_key rfl (cellsB_size _ HRL.out) ?_)
    | (refine wpList_load_row rfl 24 (.tmp 15) rfl w10.heap.size rfl 24 (cellsB g).toArray (0, 0) _ G11.out under_key rfl (cellsB_size _ HGL.out) ?_)
    | (refine wpList_load_row rfl 27 (.tmp 7) rfl (w2.heap.size + 1) rfl 27 #[.int .i64 ((n : Int) + 2), .int .i64 p1, .slice X k1 x] (0, 0) _ M11.out Tryz.underlying27 rfl (by kernel_rfl) ?_)
    | (go_at_call 28; (with_reducible refine (HV.out _ _ _ P11.out).mono ?_); rintro e w12 ⟨rfl, hb⟩; have D12 := Lib.hid (bel_on D11.out hb); have N12 := Lib.hid (N11.out.below' hb); have M12 := Lib.hid (M11.out.below' hb); clear hb))
  all_goals first | omega | skip
  have hwr : IntKind.i64.wrap ((n : Int) + 2) = (n : Int) + 2 := by rw [IntKind.wrap_i64]; omega
  have HS : Hid (∀ W, Below w12.heap.size w12 W → W.cell? ⟨w2.heap.size, 0, none⟩ = some (.int .i64 u) ∧ W.cell? ⟨w2.heap.size, 1, none⟩ = some (.int .i64 t) ∧ W.cell? ⟨w2.heap.size + 1, 0, none⟩ = some (.int .i64 ((n : Int) + 2))) := fun W hW => ⟨(N12.out.below' hW).cell 0, (N12.out.below' hW).cell 1, (M12.out.below' hW).cell 0⟩
  have E0 : Below w12.heap.size w12 w12 := Below.refl _ _
  refine wp_region_noPanic ?_
  refine wp_region_held_drew (S := fun W => W.cell? ⟨w2.heap.size, 0, none⟩ = some (.int .i64 u) ∧ W.cell? ⟨w2.heap.size, 1, none⟩ = some (.int .i64 t) ∧ W.cell? ⟨w2.heap.size + 1, 0, none⟩ = some (.int .i64 ((n : Int) + 2))) (by kernel_rfl) (HS.out _ E0.drew) (fun hS => ?_)
  have E0 := E0.drew
  refine hd_take 0 (_) rfl rfl (by kernel_rfl) (by kernel_rfl) (by kernel_rfl) (fun _ _ _ h => h) (fun w hw => by go_simp <;> rfl) hS ?_
  simp only [List.getElem_toArray, List.getElem_cons_succ, List.getElem_cons_zero, Act.put, List.setIfInBounds_toArray, List.set_cons_zero, List.set_cons_succ]
  refine hd_take 1 (_) rfl rfl (by kernel_rfl) (by kernel_rfl) (by kernel_rfl) (fun _ _ _ h => h) (fun w hw => by go_simp <;> rfl) hS ?_
  simp only [List.getElem_toArray, List.getElem_cons_succ, List.getElem_cons_zero, Act.put, List.setIfInBounds_toArray, List.set_cons_zero, List.set_cons_succ]
  refine hg_take 2 (_) rfl (by rfl) (by kernel_rfl) (by kernel_rfl) (by kernel_rfl) (fun _ _ _ h => h) (fun w hw => by go_simp <;> rfl) hS ?_
  simp only [List.getElem_toArray, List.getElem_cons_succ, List.getElem_cons_zero, Act.put, List.setIfInBounds_toArray, List.set_cons_zero, List.set_cons_succ]
  refine hg_take 3 (_) rfl (by rfl) (by kernel_rfl) (by kernel_rfl) (by kernel_rfl) (fun _ _ _ h => h) (fun w hw => by go_simp <;> rfl) hS ?_
  simp only [List.getElem_toArray, List.getElem_cons_succ, List.getElem_cons_zero, Act.put, List.setIfInBounds_toArray, List.set_cons_zero, List.set_cons_succ]
  refine hd_take 4 (_) rfl rfl (by kernel_rfl) (by kernel_rfl) (by kernel_rfl) (fun _ _ _ h => h) (fun w hw => by go_simp <;> rfl) hS ?_
  simp only [List.getElem_toArray, List.getElem_cons_succ, List.getElem_cons_zero, Act.put, List.setIfInBounds_toArray, List.set_cons_zero, List.set_cons_succ]
  refine hd_take 5 (_) rfl rfl (by kernel_rfl) (by kernel_rfl) (by kernel_rfl) (fun _ _ _ h => h) (fun w hw => by go_simp <;> rfl) hS ?_
  simp only [List.getElem_toArray, List.getElem_cons_succ, List.getElem_cons_zero, Act.put, List.setIfInBounds_toArray, List.set_cons_zero, List.set_cons_succ]
  refine hg_take 6 (_) rfl (by rfl) (by kernel_rfl) (by kernel_rfl) (by kernel_rfl) (fun _ _ _ h => h) (fun w hw => by go_simp <;> rfl) hS ?_
  simp only [List.getElem_toArray, List.getElem_cons_succ, List.getElem_cons_zero, Act.put, List.setIfInBounds_toArray, List.set_cons_zero, List.set_cons_succ]
  refine hg_take 7 (_) rfl (by rfl) (by kernel_rfl) (by kernel_rfl) (by kernel_rfl) (fun _ _ _ h => h) (fun w hw => by go_simp <;> rfl) hS ?_
  simp only [List.getElem_toArray, List.getElem_cons_succ, List.getElem_cons_zero, Act.put, List.setIfInBounds_toArray, List.set_cons_zero, List.set_cons_succ]
  refine hd_take 8 (_) rfl rfl (by kernel_rfl) (by kernel_rfl) (by kernel_rfl) (fun _ _ _ h => h) (fun w hw => by go_simp <;> rfl) hS ?_
  simp only [List.getElem_toArray, List.getElem_cons_succ, List.getElem_cons_zero, Act.put, List.setIfInBounds_toArray, List.set_cons_zero, List.set_cons_succ]
  refine hd_take 9 (_) rfl rfl (by kernel_rfl) (by kernel_rfl) (by kernel_rfl) (fun _ _ _ h => h) (fun w hw => by go_simp <;> rfl) hS ?_
  simp only [List.getElem_toArray, List.getElem_cons_succ, List.getElem_cons_zero, Act.put, List.setIfInBounds_toArray, List.set_cons_zero, List.set_cons_succ]
  refine hg_take 10 (_) rfl (by rfl) (by kernel_rfl) (by kernel_rfl) (by kernel_rfl) (fun _ _ _ h => h) (fun w hw => by go_simp <;> rfl) hS ?_
  simp only [List.getElem_toArray, List.getElem_cons_succ, List.getElem_cons_zero, Act.put, List.setIfInBounds_toArray, List.set_cons_zero, List.set_cons_succ]
  refine hg_take 11 (.int .i64 u) rfl (by rfl) (by kernel_rfl) (by kernel_rfl) (by kernel_rfl) (fun _ _ _ h => h) (fun w hw => by have hx := hw.1; simp [go_sem, hx]) hS ?_
  simp only [List.getElem_toArray, List.getElem_cons_succ, List.getElem_cons_zero, Act.put, List.setIfInBounds_toArray, List.set_cons_zero, List.set_cons_succ]
  refine hg_take 12 (_) rfl (by rfl) (by kernel_rfl) (by kernel_rfl) (by kernel_rfl) (fun _ _ _ h => h) (fun w hw => by go_simp <;> rfl) hS ?_
  simp only [List.getElem_toArray, List.getElem_cons_succ, List.getElem_cons_zero, Act.put, List.setIfInBounds_toArray, List.set_cons_zero, List.set_cons_succ]
  refine hg_take 13 (.bool true) rfl (by rfl) (by kernel_rfl) (by kernel_rfl) (by kernel_rfl) (fun _ _ _ h => h) (fun w hw => by simp [go_sem]) hS ?_
  simp only [List.getElem_toArray, List.getElem_cons_succ, List.getElem_cons_zero, Act.put, List.setIfInBounds_toArray, List.set_cons_zero, List.set_cons_succ]
  refine hd_take 14 (_) rfl rfl (by kernel_rfl) (by kernel_rfl) (by kernel_rfl) (fun _ _ _ h => h) (fun w hw => by go_simp <;> rfl) hS ?_
  simp only [List.getElem_toArray, List.getElem_cons_succ, List.getElem_cons_zero, Act.put, List.setIfInBounds_toArray, List.set_cons_zero, List.set_cons_succ]
  refine hd_take 15 (_) rfl rfl (by kernel_rfl) (by kernel_rfl) (by kernel_rfl) (fun _ _ _ h => h) (fun w hw => by go_simp <;> rfl) hS ?_
  simp only [List.getElem_toArray, List.getElem_cons_succ, List.getElem_cons_zero, Act.put, List.setIfInBounds_toArray, List.set_cons_zero, List.set_cons_succ]
  refine hg_take 16 (_) rfl (by rfl) (by kernel_rfl) (by kernel_rfl) (by kernel_rfl) (fun _ _ _ h => h) (fun w hw => by go_simp <;> rfl) hS ?_
  simp only [List.getElem_toArray, List.getElem_cons_succ, List.getElem_cons_zero, Act.put, List.setIfInBounds_toArray, List.set_cons_zero, List.set_cons_succ]
  refine hg_take 17 (.int .i64 t) rfl (by rfl) (by kernel_rfl) (by kernel_rfl) (by kernel_rfl) (fun _ _ _ h => h) (fun w hw => by have hx := hw.2.1; simp [go_sem, hx]) hS ?_
  simp only [List.getElem_toArray, List.getElem_cons_succ, List.getElem_cons_zero, Act.put, List.setIfInBounds_toArray, List.set_cons_zero, List.set_cons_succ]
  refine hg_take 18 (_) rfl (by rfl) (by kernel_rfl) (by kernel_rfl) (by kernel_rfl) (fun _ _ _ h => h) (fun w hw => by go_simp <;> rfl) hS ?_
  simp only [List.getElem_toArray, List.getElem_cons_succ, List.getElem_cons_zero, Act.put, List.setIfInBounds_toArray, List.set_cons_zero, List.set_cons_succ]
  refine hg_take 19 (_) rfl (by rfl) (by kernel_rfl) (by kernel_rfl) (by kernel_rfl) (fun _ _ _ h => h) (fun w hw => by go_simp <;> rfl) hS ?_
  simp only [List.getElem_toArray, List.getElem_cons_succ, List.getElem_cons_zero, Act.put, List.setIfInBounds_toArray, List.set_cons_zero, List.set_cons_succ]
  refine hg_calls 20 32 #[.slice A n c, .int .i64 u] rfl (by rfl) (by kernel_rfl) (by go_simp <;> rfl) ?_
  refine (HU.out _ (bel_on D12.out E0)).mono ?_
  rintro e w13 ⟨rfl, hb⟩
  have E1_ := bel_on E0 hb
  have hS1_ := HS.out _ E1_
  clear hb
  refine ⟨_, rfl, hS1_, ?_⟩
  simp only [List.getElem_toArray, List.getElem_cons_succ, List.getElem_cons_zero, Act.put, List.setIfInBounds_toArray, List.set_cons_zero, List.set_cons_succ]
  refine hg_take 21 (.bool true) rfl (by rfl) (by kernel_rfl) (by kernel_rfl) (by kernel_rfl) (fun _ _ _ h => h) (fun w hw => by simp [go_sem]) hS1_ ?_
  simp only [List.getElem_toArray, List.getElem_cons_succ, List.getElem_cons_zero, Act.put, List.setIfInBounds_toArray, List.set_cons_zero, List.set_cons_succ]
  refine hd_take 22 (_) rfl rfl (by kernel_rfl) (by kernel_rfl) (by kernel_rfl) (fun _ _ _ h => h) (fun w hw => by go_simp <;> rfl) hS1_ ?_
  simp only [List.getElem_toArray, List.getElem_cons_succ, List.getElem_cons_zero, Act.put, List.setIfInBounds_toArray, List.set_cons_zero, List.set_cons_succ]
  refine hd_take 23 (_) rfl rfl (by kernel_rfl) (by kernel_rfl) (by kernel_rfl) (fun _ _ _ h => h) (fun w hw => by go_simp <;> rfl) hS1_ ?_
  simp only [List.getElem_toArray, List.getElem_cons_succ, List.getElem_cons_zero, Act.put, List.setIfInBounds_toArray, List.set_cons_zero, List.set_cons_succ]
  refine hg_take 24 (_) rfl (by rfl) (by kernel_rfl) (by kernel_rfl) (by kernel_rfl) (fun _ _ _ h => h) (fun w hw => by go_simp <;> rfl) hS1_ ?_
  simp only [List.getElem_toArray, List.getElem_cons_succ, List.getElem_cons_zero, Act.put, List.setIfInBounds_toArray, List.set_cons_zero, List.set_cons_succ]
  refine hg_take 25 (_) rfl (by rfl) (by kernel_rfl) (by kernel_rfl) (by kernel_rfl) (fun _ _ _ h => h) (fun w hw => by go_simp <;> rfl) hS1_ ?_
  simp only [List.getElem_toArray, List.getElem_cons_succ, List.getElem_cons_zero, Act.put, List.setIfInBounds_toArray, List.set_cons_zero, List.set_cons_succ]
  refine hd_take 26 (_) rfl rfl (by kernel_rfl) (by kernel_rfl) (by kernel_rfl) (fun _ _ _ h => h) (fun w hw => by go_simp <;> rfl) hS1_ ?_
  simp only [List.getElem_toArray, List.getElem_cons_succ, List.getElem_cons_zero, Act.put, List.setIfInBounds_toArray, List.set_cons_zero, List.set_cons_succ]
  refine hd_take 27 (_) rfl rfl (by kernel_rfl) (by kernel_rfl) (by kernel_rfl) (fun _ _ _ h => h) (fun w hw => by go_simp <;> rfl) hS1_ ?_
  simp only [List.getElem_toArray, List.getElem_cons_succ, List.getElem_cons_zero, Act.put, List.setIfInBounds_toArray, List.set_cons_zero, List.set_cons_succ]
  refine hg_take 28 (_) rfl (by rfl) (by kernel_rfl) (by kernel_rfl) (by kernel_rfl) (fun _ _ _ h => h) (fun w hw => by go_simp <;> rfl) hS1_ ?_
  simp only [List.getElem_toArray, List.getElem_cons_succ, List.getElem_cons_zero, Act.put, List.setIfInBounds_toArray, List.set_cons_zero, List.set_cons_succ]
  refine hg_take 29 (_) rfl (by rfl) (by kernel_rfl) (by kernel_rfl) (by kernel_rfl) (fun _ _ _ h => h) (fun w hw => by go_simp <;> rfl) hS1_ ?_
  simp only [List.getElem_toArray, List.getElem_cons_succ, List.getElem_cons_zero, Act.put, List.setIfInBounds_toArray, List.set_cons_zero, List.set_cons_succ]
  refine hd_take 30 (_) rfl rfl (by kernel_rfl) (by kernel_rfl) (by kernel_rfl) (fun _ _ _ h => h) (fun w hw => by go_simp <;> rfl) hS1_ ?_
  simp only [List.getElem_toArray, List.getElem_cons_succ, List.getElem_cons_zero, Act.put, List.setIfInBounds_toArray, List.set_cons_zero, List.set_cons_succ]
  refine hd_take 31 (_) rfl rfl (by kernel_rfl) (by kernel_rfl) (by kernel_rfl) (fun _ _ _ h => h) (fun w hw => by go_simp <;> rfl) hS1_ ?_
  simp only [List.getElem_toArray, List.getElem_cons_succ, List.getElem_cons_zero, Act.put, List.setIfInBounds_toArray, List.set_cons_zero, List.set_cons_succ]
  refine hg_take 32 (_) rfl (by rfl) (by kernel_rfl) (by kernel_rfl) (by kernel_rfl) (fun _ _ _ h => h) (fun w hw => by go_simp <;> rfl) hS1_ ?_
  simp only [List.getElem_toArray, List.getElem_cons_succ, List.getElem_cons_zero, Act.put, List.setIfInBounds_toArray, List.set_cons_zero, List.set_cons_succ]
  refine hd_take 33 (_) rfl rfl (by kernel_rfl) (by kernel_rfl) (by kernel_rfl) (fun _ _ _ h => h) (fun w hw => by go_simp <;> rfl) hS1_ ?_
  simp only [List.getElem_toArray, List.getElem_cons_succ, List.getElem_cons_zero, Act.put, List.setIfInBounds_toArray, List.set_cons_zero, List.set_cons_succ]
  refine hd_take 34 (_) rfl rfl (by kernel_rfl) (by kernel_rfl) (by kernel_rfl) (fun _ _ _ h => h) (fun w hw => by go_simp <;> rfl) hS1_ ?_
  simp only [List.getElem_toArray, List.getElem_cons_succ, List.getElem_cons_zero, Act.put, List.setIfInBounds_toArray, List.set_cons_zero, List.set_cons_succ]
  refine hg_take 35 (_) rfl (by rfl) (by kernel_rfl) (by kernel_rfl) (by kernel_rfl) (fun _ _ _ h => h) (fun w hw => by go_simp <;> rfl) hS1_ ?_
  simp only [List.getElem_toArray, List.getElem_cons_succ, List.getElem_cons_zero, Act.put, List.setIfInBounds_toArray, List.set_cons_zero, List.set_cons_succ]
  refine hg_take 36 (.int .i64 ((n : Int) + 2)) rfl (by rfl) (by kernel_rfl) (by kernel_rfl) (by kernel_rfl) (fun _ _ _ h => h) (fun w hw => by have hx := hw.2.2; simp [go_sem, hx]) hS1_ ?_
  simp only [List.getElem_toArray, List.getElem_cons_succ, List.getElem_cons_zero, Act.put, List.setIfInBounds_toArray, List.set_cons_zero, List.set_cons_succ]
  refine hg_take 37 (_) rfl (by rfl) (by kernel_rfl) (by kernel_rfl) (by kernel_rfl) (fun _ _ _ h => h) (fun w hw => by go_simp <;> rfl) hS1_ ?_
  simp only [List.getElem_toArray, List.getElem_cons_succ, List.getElem_cons_zero, Act.put, List.setIfInBounds_toArray, List.set_cons_zero, List.set_cons_succ]
  refine hg_take 38 (_) rfl (by rfl) (by kernel_rfl) (by kernel_rfl) (by kernel_rfl) (fun _ _ _ h => h) (fun w hw => by go_simp <;> rfl) hS1_ ?_
  simp only [List.getElem_toArray, List.getElem_cons_succ, List.getElem_cons_zero, Act.put, List.setIfInBounds_toArray, List.set_cons_zero, List.set_cons_succ]
  refine hg_take 39 (_) rfl (by rfl) (by kernel_rfl) (by kernel_rfl) (by kernel_rfl) (fun _ _ _ h => h) (fun w hw => by go_simp <;> rfl) hS1_ ?_
  simp only [List.getElem_toArray, List.getElem_cons_succ, List.getElem_cons_zero, Act.put, List.setIfInBounds_toArray, List.set_cons_zero, List.set_cons_succ]
  refine hg_take 40 (.bool true) rfl (by rfl) (by kernel_rfl) (by kernel_rfl) (by kernel_rfl) (fun _ _ _ h => h) (fun w hw => by simp [go_sem, hwr]) hS1_ ?_
  simp only [List.getElem_toArray, List.getElem_cons_succ, List.getElem_cons_zero, Act.put, List.setIfInBounds_toArray, List.set_cons_zero, List.set_cons_succ]
  refine hd_take 41 (_) rfl rfl (by kernel_rfl) (by kernel_rfl) (by kernel_rfl) (fun _ _ _ h => h) (fun w hw => by go_simp <;> rfl) hS1_ ?_
  simp only [List.getElem_toArray, List.getElem_cons_succ, List.getElem_cons_zero, Act.put, List.setIfInBounds_toArray, List.set_cons_zero, List.set_cons_succ]
  refine hd_take 42 (_) rfl rfl (by kernel_rfl) (by kernel_rfl) (by kernel_rfl) (fun _ _ _ h => h) (fun w hw => by go_simp <;> rfl) hS1_ ?_
  simp only [List.getElem_toArray, List.getElem_cons_succ, List.getElem_cons_zero, Act.put, List.setIfInBounds_toArray, List.set_cons_zero, List.set_cons_succ]
  refine wpAnyH_done (by kernel_rfl) (NoPanic.normal ?_) _
  have D13 := Lib.hid (bel_on D12.out E1_)
  clear hS hS1_ HS E0 E1_
  go_wp2_with fail
  go_ret
  exact ⟨rfl, D13.out⟩
theorem auditEither_walk (A : Option Addr) (c : Nat) (es : List Ent) (u : Int) (w : World) (h : ER w A c es) (hc : c * 16 ≤ 140737488351232) (_ : -9223372036854775808 ≤ u) (_ : u ≤ 9223372036854775807) (hT : TestsIn w) :
    Calls Tryz.prog 16 #[.slice A es.length c, .int .i64 u] w fun e w' => e = .returned (.bool true) ∧ Below w.heap.size w w' := by
  have HA := Lib.hid (alive_any w hT)
  cases hv : validL es with
  | false => exact either_bad es A c u w rfl h HA 90 (.inl ⟨hv, rfl⟩)
  | true =>
    by_cases hu : u < 0 ∨ 64 ≤ u
    · exact either_bad es A c u w rfl h HA 2 (.inr ⟨hv, hu, rfl⟩)
    · cases hh : hitE (endedE es) u with
      | false => exact either_isoff es A c u w rfl h HA hv (by omega) (by omega) hh
      | true => exact either_ison es A c u w rfl h HA hv (by omega) (by omega) hh
end Go.Proofs.YtinpiodfpnbllaaGreatDoor
