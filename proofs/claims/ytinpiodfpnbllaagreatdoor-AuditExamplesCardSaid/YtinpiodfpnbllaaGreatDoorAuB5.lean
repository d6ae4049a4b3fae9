/-
  Lemmas and contracts, joined.
-/
import Derived.Lib.AppendZerosOnto
import Derived.Deep.QuietTactic
import Derived.BigQuiet
import Derived.Deep.Onto
import Derived.Lib.SmallJoins
import Derived.Deep.Strs
import Derived.Test.YtinpiodfpnbllaaGreatDoorAuB4
import Derived.Test.YtinpiodfpnbllaaGreatDoorAuB2
import Derived.Test.YtinpiodfpnbllaaGreatDoorAuB1
import Derived.Test.YtinpiodfpnbllaaGreatDoorAuB3
import Derived.Test.YtinpiodfpnbllaaGreatDoorAuA1
set_option linter.unusedSimpArgs false
set_option linter.unusedVariables false
set_option linter.unnecessarySimpa false
/- slices.DeleteFunc at entries. -/
namespace Go.Proofs.YtinpiodfpnbllaaGreatDoor
open Go.RowKit
set_option linter.unusedVariables false
set_option linter.unusedSimpArgs false

/-- The index of the first entry that ends before a time, or -1. -/
def IdxEnd (es : List Ent) (z : Int) (e : Ending) : Prop := (e = .returned (.int .i64 (-1)) ∧ pruneS es z = es) ∨ ∃ k : Nat, ∃ h : k < es.length, e = .returned (.int .i64 (k : Int)) ∧ es[k].2 < z ∧ pruneS (es.take k) z = es.take k
theorem pruneS_keep {es : List Ent} {z : Int} {k : Nat} (hk : k < es.length) (h : ¬ es[k].2 < z) : pruneS (es.take (k + 1)) z = pruneS (es.take k) z ++ [es[k]] := by rw [pruneS_step hk, if_pos (by omega)]
theorem pruneS_drop {es : List Ent} {z : Int} {k : Nat} (hk : k < es.length) (h : es[k].2 < z) : pruneS (es.take (k + 1)) z = pruneS (es.take k) z := by rw [pruneS_step hk, if_neg (by omega), List.append_nil]

set_option maxHeartbeats 4000000 in
set_option maxRecDepth 100000 in
theorem index_any {B : Nat} (es : List Ent) (z : Int) (p : Addr) (g c : Nat) (w : World) {n : Nat} (hn : es.length = n) (h : EB B w g c es) (hp : w.cell? p = some (.int .i64 z)) (hs : n ≤ 1000000) :
    Calls Tryz.prog 153 #[.slice (some ⟨g, 0, none⟩) n c, .func (.func 102) #[] #[.pointer (some p)]] w fun e w' => IdxEnd es z e ∧ Below w.heap.size w w' := by
  have hnl : (n : Int) ≤ 1000000 := by omega
  have hlen := h.len
  have hcap := h.cap
  have hcl : (c : Int) ≤ 9223372036854775807 := by omega
  have hcn : (n : Int) ≤ (c : Int) := by omega
  have H := Lib.hid h
  have HN := Lib.hid hn
  have hpl := World.block_lt_of_cell? w _ hp
  have HP : Hid (∀ W, Below w.heap.size w W → W.cell? p = some (.int .i64 z)) := fun W hW => (hW.cell hpl).trans hp
  clear h hn hlen hcap hp hpl
  go_enter Tryz.func153, Tryz.ntmps153
  go_wp2_with fail
  go_loopw [8] (fun vi wr => ∃ k : Nat, k ≤ n ∧ vi = .int .i64 (k : Int) ∧ Hid (pruneS (es.take k) z = es.take k) ∧ Below w.heap.size w wr) (fun vi _ => n - (intOf vi).toNat)
  case atStart => exact ⟨0, by omega, rfl, by unfold Hid; simp [pruneS], Below.refl _ _⟩
  case round =>
    obtain ⟨k, hk, rfl, HV, hbel⟩ := hrel
    by_cases hlt : k < n
    · have hki : (k : Int) < n := by omega
      have hkl : k < es.length := by have := HN.out; omega
      obtain ⟨x, hx⟩ : ∃ x, es[k] = x := ⟨_, rfl⟩
      have hc := (H.out.below hbel).cell hkl
      rw [hx] at hc
      have HKL := Lib.hid hkl
      obtain ⟨x0, x1⟩ := x
      simp only at hc
      obtain ⟨c0, c1⟩ := hc
      by_cases hd : x1 < z
      · have HC : Hid (∀ W, Below w.heap.size w W → Calls Tryz.prog 102 #[.agg #[.int .i64 x0, .int .i64 x1], .pointer (some p)] W fun e w' => e = .returned (.bool true) ∧ Below W.heap.size W w') := fun W hW => by
          have := pruneLess_any (x0, x1) z p W (HP.out W hW)
          simp only [hd, decide_true] at this; exact this
        have HX : Hid (∃ h : k < es.length, es[k].2 < z) := ⟨hkl, by rw [hx]; exact hd⟩
        clear hd hx hkl
        go_wp2_with (go_at_call 102; (with_reducible refine (HC.out _ hbel).mono ?_); rintro e w3 ⟨rfl, hb3⟩; have B3 := Lib.hid (bel_on hbel hb3); clear hb3)
        go_ret
        exact ⟨.inr ⟨k, HX.out.1, rfl, HX.out.2, HV.out⟩, B3.out⟩
      · have HC : Hid (∀ W, Below w.heap.size w W → Calls Tryz.prog 102 #[.agg #[.int .i64 x0, .int .i64 x1], .pointer (some p)] W fun e w' => e = .returned (.bool false) ∧ Below W.heap.size W w') := fun W hW => by
          have := pruneLess_any (x0, x1) z p W (HP.out W hW)
          simp only [hd, decide_false] at this; exact this
        have HX : Hid (pruneS (es.take (k + 1)) z = es.take (k + 1)) := by
          unfold Hid
          rw [pruneS_keep hkl (by rw [hx]; exact hd), HV.out, take_last hkl]
        clear hd hx hkl
        go_wp2_with (go_at_call 102; (with_reducible refine (HC.out _ hbel).mono ?_); rintro e w3 ⟨rfl, hb3⟩; have B3 := Lib.hid (bel_on hbel hb3); clear hb3)
        go_roundw
        case rel => exact ⟨k + 1, by omega, by go_num, HX.out, B3.out⟩
        case measure => simp [intOf]; omega
    · obtain rfl : k = n := by omega
      have hki : (k : Int) ≤ k := Int.le_refl _
      have HX : Hid (pruneS es z = es) := by
        have := HV.out
        rwa [List.take_of_length_le (by have := HN.out; omega)] at this
      go_wp2_with fail
      go_ret
      exact ⟨.inl ⟨rfl, HX.out⟩, hbel⟩

set_option maxHeartbeats 4000000 in
set_option maxRecDepth 100000 in
theorem delete_any {B : Nat} (es : List Ent) (z : Int) (p : Addr) (g c : Nat) (w : World) {n : Nat} (hn : es.length = n) (h0 : 1 ≤ n) (h : EB B w g c es) (hB : B ≤ w.heap.size) (hp : w.cell? p = some (.int .i64 z)) (hpB : p.block < B) (hs : n ≤ 1000000) :
    Calls Tryz.prog 100 #[.slice (some ⟨g, 0, none⟩) n c, .func (.func 102) #[] #[.pointer (some p)]] w fun e w' => e = .returned (.slice (some ⟨g, 0, none⟩) (pruneS es z).length c) ∧ EB B w' g c (pruneS es z) ∧ Below B w w' := by
  have hnl : (n : Int) ≤ 1000000 := by omega
  have hlen := h.len
  have hcap := h.cap
  have hcl : (c : Int) ≤ 9223372036854775807 := by omega
  have hcn : (n : Int) ≤ (c : Int) := by omega
  have hcn' : n ≤ c := by omega
  have HI := Lib.hid (index_any es z p g c w hn h hp hs)
  have H := Lib.hid h
  have HN := Lib.hid hn
  have HBB := Lib.hid hB
  have HP : Hid (∀ W, Below B w W → W.cell? p = some (.int .i64 z)) := fun W hW => (hW.cell hpB).trans hp
  clear h hn hlen hcap hp hpB hB
  go_enter Tryz.func100, Tryz.ntmps100
  go_wp2_with fail
  go_at_call 153
  refine HI.out.mono ?_
  rintro e w1 ⟨he, hb1⟩
  have B1 := Lib.hid (hb1.mono HBB.out)
  have E1 := Lib.hid (H.out.below hb1)
  clear hb1 HI
  rcases he with ⟨rfl, hq⟩ | ⟨k, hkl, rfl, hd, hv⟩
  · have HQ := Lib.hid hq
    clear hq
    go_wp2_with fail
    go_ret
    rw [HQ.out]
    exact ⟨by rw [HN.out]; rfl, E1.out, B1.out⟩
  · have hk : k < n := by have := HN.out; omega
    have hki : (k : Int) < n := by omega
    have hk0 : (0 : Int) ≤ (k : Int) := by omega
    have HV2 : Hid (pruneS (es.take (k + 1)) z = es.take k) := by unfold Hid; rw [pruneS_drop hkl hd]; exact hv
    have HPS : Hid (EB B w1 g c (partE (pruneS (es.take (k + 1)) z) es)) := by unfold Hid; rw [HV2.out, partE_take_self (by omega)]; exact E1.out
    have HPL : Hid ((pruneS (es.take (k + 1)) z).length = k) := by unfold Hid; rw [HV2.out, List.length_take]; omega
    have s0 : ((k : Int) == -1) = false := by simp
    clear hd hv hkl
    go_wp2_with fail
    go_loopw [5, 6] (fun vk vi wr => ∃ (K j : Nat), K + 1 ≤ j ∧ j ≤ n ∧ vk = .int .i64 (K : Int) ∧ vi = .int .i64 (j : Int) ∧ Hid ((pruneS (es.take j) z).length = K) ∧ Hid (EB B wr g c (partE (pruneS (es.take j) z) es)) ∧ Below B w wr) (fun _ vi _ => n - (intOf vi).toNat)
    case atStart => exact ⟨k, k + 1, by omega, by omega, rfl, by go_num, HPL.out, HPS.out, B1.out⟩
    case round =>
      obtain ⟨K, j, hKj, hj, rfl, rfl, HL, HE, hbel⟩ := hrel
      by_cases hlt : j < n
      · have hji : (j : Int) < n := by omega
        have hjl : j < es.length := by have := HN.out; omega
        obtain ⟨x, hx⟩ : ∃ x, es[j] = x := ⟨_, rfl⟩
        have hc := HE.out.at_ (j := j) (by rw [HL.out]; omega) hjl
        rw [hx] at hc
        have hKi : (K : Int) < n := by omega
        have hKl : K < es.length := by omega
        have hKc : K < c := by omega
        obtain ⟨x0, x1⟩ := x
        simp only at hc
        obtain ⟨c0, c1⟩ := hc
        have HKL := Lib.hid hKl
        have hbB : B ≤ wr.heap.size := Nat.le_trans HBB.out hbel.size
        have HBX := Lib.hid (hbel.alloc hbB (.cells #[.int .i64 x0, .int .i64 x1] 98))
        have Q1 := Lib.hid (Blk.new wr 98 #[.int .i64 x0, .int .i64 x1])
        have HEX := Lib.hid (HE.out.alloc (.cells #[.int .i64 x0, .int .i64 x1] 98))
        have HSZ : Hid (B ≤ (wr.alloc (.cells #[.int .i64 x0, .int .i64 x1] 98)).heap.size) := by unfold Hid; simp; omega
        by_cases hd : x1 < z
        · have HC : Hid (∀ W, Below B w W → Calls Tryz.prog 102 #[.agg #[.int .i64 x0, .int .i64 x1], .pointer (some p)] W fun e w' => e = .returned (.bool true) ∧ Below W.heap.size W w') := fun W hW => by
            have := pruneLess_any (x0, x1) z p W (HP.out W hW)
            simp only [hd, decide_true] at this; exact this
          have HQ : Hid (pruneS (es.take (j + 1)) z = pruneS (es.take j) z) := pruneS_drop hjl (by rw [hx]; exact hd)
          have HL2 : Hid ((pruneS (es.take (j + 1)) z).length = K) := by unfold Hid; rw [HQ.out]; exact HL.out
          clear hd hx hjl hKl hbB
          go_wp2_with (go_at_call 102; (with_reducible refine (HC.out _ HBX.out).mono ?_); rintro e w3 ⟨rfl, hb3⟩; have B3 := Lib.hid (HBX.out.trans (hb3.mono HSZ.out)); have E3 := Lib.hid (HEX.out.below hb3); clear hb3)
          have HP2 : Hid (EB B w3 g c (partE (pruneS (es.take (j + 1)) z) es)) := by unfold Hid; rw [HQ.out]; exact E3.out
          go_roundw
          case rel => exact ⟨K, j + 1, by omega, by omega, rfl, by go_num, HL2.out, HP2.out, B3.out⟩
          case measure => simp [intOf]; omega
        · have HC : Hid (∀ W, Below B w W → Calls Tryz.prog 102 #[.agg #[.int .i64 x0, .int .i64 x1], .pointer (some p)] W fun e w' => e = .returned (.bool false) ∧ Below W.heap.size W w') := fun W hW => by
            have := pruneLess_any (x0, x1) z p W (HP.out W hW)
            simp only [hd, decide_false] at this; exact this
          have HQ : Hid (pruneS (es.take (j + 1)) z = pruneS (es.take j) z ++ [(x0, x1)]) := by unfold Hid; rw [← hx]; exact pruneS_keep hjl (by rw [hx]; exact hd)
          have HL2 : Hid ((pruneS (es.take (j + 1)) z).length = K + 1) := by unfold Hid; rw [HQ.out, List.length_append, HL.out]; rfl
          clear hd hx hjl hKl hbB
          go_wp2_with (go_at_call 102; (with_reducible refine (HC.out _ HBX.out).mono ?_); rintro e w3 ⟨rfl, hb3⟩; have B3 := Lib.hid (HBX.out.trans (hb3.mono HSZ.out)); have E3 := Lib.hid (HEX.out.below hb3); have q0 : w3.cell? ⟨wr.heap.size, 0, none⟩ = some (.int .i64 x0) := (Q1.out.below' hb3).cell 0; have q1 : w3.cell? ⟨wr.heap.size, 1, none⟩ = some (.int .i64 x1) := (Q1.out.below' hb3).cell 1; obtain ⟨p0, p1, d0, d1⟩ := E3.out.place hKc; have f0 := E3.out.frozen (K * 2); have f1 := E3.out.frozen (K * 2 + 1); clear hb3 c0 c1)
          have HP2 : Hid (EB B ((w3.setCell ⟨g, K * 2, none⟩ (.int .i64 x0)).setCell ⟨g, K * 2 + 1, none⟩ (.int .i64 x1)) g c (partE (pruneS (es.take (j + 1)) z) es)) := by unfold Hid; rw [HQ.out]; exact E3.out.put1 (x0, x1) HL.out HKL.out
          have HB7 := Lib.hid ((B3.out.setCell (p := ⟨g, K * 2, none⟩) (HE.out.1) (.int .i64 x0)).setCell (p := ⟨g, K * 2 + 1, none⟩) (HE.out.1) (.int .i64 x1))
          go_roundw
          case rel => exact ⟨K + 1, j + 1, by omega, by omega, by go_num, by go_num, HL2.out, HP2.out, HB7.out⟩
          case measure => simp [intOf]; omega
      · obtain rfl : j = n := by omega
        have hKn : K < j := by omega
        have hKi : (K : Int) < j := by omega
        have hji : (j : Int) ≤ j := Int.le_refl _
        have hsl2 := fun W => slice_ents_from0 W g j c K hKn hcn'
        have hsl3 := fun W => slice_ents_to W (some ⟨g, 0, none⟩) j c K (by omega)
        have HALL : Hid (pruneS (es.take j) z = pruneS es z) := by unfold Hid; rw [List.take_of_length_le (by have := HN.out; omega)]
        rw [HALL.out] at HE HL
        have HF := Lib.hid (HE.out.take K (by have := HN.out; rw [partE_length (by rw [HL.out]; omega)]; omega))
        have e2 : (partE (pruneS es z) es).take K = pruneS es z := by rw [← HL.out]; exact partE_take
        rw [e2] at HF
        have HFF := Lib.hid (HF.out.far (List.replicate ((j - K) * 2) (.int .i64 0)) (K * 2) (by rw [HL.out]; omega))
        have HBF := Lib.hid (below_setCells HE.out.1 (List.replicate ((j - K) * 2) (.int .i64 0)) (K * 2) hbel)
        have hpos : 0 < j - K := by omega
        have hsum : K + (j - K) ≤ c := by omega
        clear e2 hbel
        go_wp2_with (refine wpList_clear_ents _ rfl (.tmp 38) rfl B g (j - K) K c (c - K) (pruneS es z) rfl HF.out hpos hsum ?_)
        go_ret
        exact ⟨by rw [HL.out]; rfl, HFF.out, HBF.out⟩

set_option maxHeartbeats 2000000 in
theorem index_none (A : Option Addr) (c : Nat) (fv : Value) (w : World) :
    Calls Tryz.prog 153 #[.slice A 0 c, fv] w fun e w' => e = .returned (.int .i64 (-1)) ∧ w' = w := by
  go_enter Tryz.func153, Tryz.ntmps153
  go_wp2_with fail
  refine wp_loop_rounds 1 ?_
  rw [rounds_succ]
  go_wp2_with fail
  go_ret
  exact ⟨rfl, rfl⟩
set_option maxHeartbeats 2000000 in
theorem delete_none (A : Option Addr) (c : Nat) (fv : Value) (w : World) :
    Calls Tryz.prog 100 #[.slice A 0 c, fv] w fun e w' => e = .returned (.slice A 0 c) ∧ w' = w := by
  go_enter Tryz.func100, Tryz.ntmps100
  go_wp2_with (go_at_call 153; refine (index_none _ _ _ _).mono ?_; rintro e w' ⟨rfl, rfl⟩)
  go_ret
  exact ⟨rfl, rfl⟩
set_option maxHeartbeats 2000000 in
theorem compact_short (A : Option Addr) (n c : Nat) (fv : Value) (w : World) (hn : n < 2) :
    Calls Tryz.prog 86 #[.slice A n c, fv] w fun e w' => e = .returned (.slice A n c) ∧ w' = w := by
  have h1 : (n : Int) < 2 := by omega
  have h2 : (n : Int) ≤ 9223372036854775807 := by omega
  go_enter Tryz.func86, Tryz.ntmps86
  go_wp2_with fail
  go_ret
  exact ⟨rfl, rfl⟩
end Go.Proofs.YtinpiodfpnbllaaGreatDoor

/- slices.Concat at entries. -/
namespace Go.Proofs.YtinpiodfpnbllaaGreatDoor
open Go.RowKit
set_option linter.unusedVariables false

theorem wpList_growE (w : World) {ops : Array Oper} {rest : List Oper} {o : Oper} {a : Act} {Q : Exit → Act → World → Prop} (hgd : o.guard = none) (s x : Operand)
    (ho : o.op = .call { callee := .builtin .append, args := #[s, x], argTypes := #[56, 3] }) (k : Nat) (hs : a.eval s = .slice none 0 0) (hx : a.eval x = .int .i64 (k : Int)) (h0 : 0 < k) (hk : k ≤ 1000000)
    (h : ∀ c w', OE w.heap.size w' (some ⟨w.heap.size, 0, none⟩) c [] → k ≤ c → c ≤ 9223372036854775807 → Below w.heap.size w w' → wpList Tryz.prog ops Q rest (a.put o.dst (.slice (some ⟨w.heap.size, 0, none⟩) k c)) w') : wpList Tryz.prog ops Q (o :: rest) a w := by
  obtain ⟨i0, hi, hz0, hz1, hz2⟩ := info_parts ent_info3
  have hfit : Builtin.nextslicecap (0 + k) 0 * i0.bytes ≤ 281474976710656 := by
    rw [hz2]
    unfold Builtin.nextslicecap
    simp only [Nat.zero_add]
    split <;> (try simp) <;> omega
  have hrun := Lib.run_append_grow_zeros (P := Tryz.prog) w 56 3 o.type 98 i0 (.agg (cellsX (0, 0)).toArray) .i64 .i64 Tryz.underlying56 Tryz.underlying3 hi hz0 none 0 0 [] (by simp [Builtin.firstCells]) k h0 (by rw [hz1]; omega) (by omega) (by omega) (by rw [hz2]; omega) hfit
  refine wpList_plain hgd fun K hK => ?_
  rw [Nat.zero_add] at hrun
  have hge := grownCap_ge w k 0 98
  have hle := grownCap_le_maxLen w k 0 98 (by simp only [maxLen]; omega)
  have ho1 : OE w.heap.size (w.drew.alloc (.cells (([] : List Value).toArray ++ Builtin.zeroCells (Value.agg (cellsX (0, 0)).toArray).cells k ++ Builtin.zeroCells (Value.agg (cellsX (0, 0)).toArray).cells (grownCap w k 0 98 - k)) 98)) (some ⟨w.heap.size, 0, none⟩) (grownCap w k 0 98) [] :=
    ⟨rfl, .inr ⟨w.heap.size, _, _, rfl, Nat.le_refl _, heap_alloc_new w.drew _, Nat.zero_le _, hle, by simp [size_zeroCells, Value.cells, cellsX]; omega, by simp [cellsE]⟩⟩
  have hb1 : Below w.heap.size w (w.drew.alloc (.cells (([] : List Value).toArray ++ Builtin.zeroCells (Value.agg (cellsX (0, 0)).toArray).cells k ++ Builtin.zeroCells (Value.agg (cellsX (0, 0)).toArray).cells (grownCap w k 0 98 - k)) 98)) := (Below.refl _ w).drew.alloc (Nat.le_refl _) _
  unfold Oper.wp
  simp only [execOp, ho, resolve, invoke, builtin, Sem.run_bind, Sem.run_pure, Result.andThen_ok, List.map_toArray, List.map_cons, List.map_nil, hs, hx, hrun]
  exact hK _ _ (h _ _ ho1 hge (by simpa [maxLen] using hle) hb1)

set_option maxHeartbeats 1000000 in
theorem GrowE_any (n : Nat) (w : World) (h0 : 0 < n) (hn : n ≤ 1000000) : Calls Tryz.prog 142 #[.slice none 0 0, .int .i64 (n : Int)] w fun e w' => (∃ A c, e = .returned (.slice A 0 c) ∧ OE w.heap.size w' A c []) ∧ Below w.heap.size w w' := by
  have hni : (n : Int) ≤ 1000000 := by omega
  have h0i : (0 : Int) < (n : Int) := by omega
  go_enter Tryz.func142, Tryz.ntmps142
  go_wp2_with (at_builtin; refine wpList_growE _ rfl (.tmp 20) (.tmp 21) rfl n rfl rfl h0 hn ?_; intro c1 w1 ho1 hc1 hc2 hb1; have HO1 := Lib.hid ho1; clear ho1)
  go_ret
  exact ⟨⟨_, c1, rfl, HO1.out⟩, hb1⟩

set_option maxHeartbeats 1000000 in
theorem GrowE_zero (w : World) : Calls Tryz.prog 142 #[.slice none 0 0, .int .i64 ((0 : Nat) : Int)] w fun e w' => (∃ A c, e = .returned (.slice A 0 c) ∧ OE w.heap.size w' A c []) ∧ Below w.heap.size w w' := by
  go_enter Tryz.func142, Tryz.ntmps142
  go_wp2_with fail
  go_ret
  exact ⟨⟨none, 0, rfl, World.ownsRow_nil _ _ _ _⟩, Below.refl _ _⟩
theorem GrowE_all (n : Nat) (w : World) (hn : n ≤ 1000000) : Calls Tryz.prog 142 #[.slice none 0 0, .int .i64 (n : Int)] w fun e w' => (∃ A c, e = .returned (.slice A 0 c) ∧ OE w.heap.size w' A c []) ∧ Below w.heap.size w w' := by
  rcases Nat.eq_zero_or_pos n with rfl | h
  · exact GrowE_zero w
  · exact GrowE_any n w h hn

structure ERow where
  A : Option Addr
  c : Nat
  l : List Ent
def ERow.v (r : ERow) : Value := .slice r.A r.l.length r.c
/-- A slice of lists of entries. -/
def RE (w : World) (A : Option Addr) (c : Nat) (rs : List ERow) : Prop := Rd w 1 A c rs.length (rs.map ERow.v) ∧ ∀ r ∈ rs, ER w r.A r.c r.l

/-- The first i rows, one behind the other. -/
def catE (rs : List ERow) (i : Nat) : List Ent := (rs.take i).flatMap ERow.l
theorem catE_succ {rs : List ERow} {i : Nat} {r : ERow} (h : rs[i]? = some r) : catE rs (i + 1) = catE rs i ++ r.l := by
  obtain ⟨hi, he⟩ := List.getElem?_eq_some_iff.1 h
  rw [catE, List.take_succ_eq_append_getElem hi, List.flatMap_append, he]
  simp [catE]
theorem catE_le (rs : List ERow) {i n : Nat} (h : i ≤ n) : (catE rs i).length ≤ (catE rs n).length := by
  have e : (rs.take n).take i = rs.take i := by rw [List.take_take, Nat.min_eq_left h]
  have this := (List.take_append_drop i (rs.take n)).symm
  rw [e] at this
  rw [catE, catE, this, List.flatMap_append, List.length_append]
  omega
theorem RE.cellAt {w : World} {A : Option Addr} {c : Nat} {rs : List ERow} (h : RE w A c rs) {i : Nat} (hi : i < rs.length) :
    ∃ b off r, A = some ⟨b, off, none⟩ ∧ b < w.heap.size ∧ rs[i]? = some r ∧ w.cell? ⟨b, off + i, none⟩ = some (.slice r.A r.l.length r.c) ∧ ER w r.A r.c r.l := by
  obtain ⟨b, off, e, hb, v, hv, hc⟩ := Rd.at1 h.1 hi
  have hr : rs[i]? = some rs[i] := List.getElem?_eq_getElem hi
  rw [List.getElem?_map, hr] at hv
  injection hv with hv
  subst hv
  exact ⟨b, off, rs[i], e, hb, hr, hc, h.2 _ (List.getElem_mem hi)⟩
theorem RE.on {w w' : World} {A : Option Addr} {c : Nat} {rs : List ERow} (h : RE w A c rs) (hb : Below w.heap.size w w') : RE w' A c rs := ⟨h.1.below hb, fun r hr => (h.2 r hr).below hb⟩

set_option maxHeartbeats 1000000 in
set_option maxRecDepth 100000 in
theorem ConcatE_all (A : Option Addr) (c : Nat) (rs : List ERow) (w : World) {n N : Nat} (hn : rs.length = n) (h : RE w A c rs) (hN : (catE rs n).length = N) (hb : N ≤ 1000000) :
    Calls Tryz.prog 81 #[.slice A n c] w fun e w' => (∃ A' c', e = .returned (.slice A' N c') ∧ OE w.heap.size w' A' c' (catE rs n)) ∧ Below w.heap.size w w' := by
  have HN := Lib.hid hn
  have HNN := Lib.hid hN
  have H := Lib.hid h
  have hni : (N : Int) ≤ 1000000 := by omega
  have hnl : (n : Int) ≤ 140737488351232 := by have := h.1.len; omega
  have HGR : Hid (∀ W, Calls Tryz.prog 142 #[.slice none 0 0, .int .i64 (N : Int)] W fun e w' => (∃ A c, e = .returned (.slice A 0 c) ∧ OE W.heap.size w' A c []) ∧ Below W.heap.size W w') := fun W => GrowE_all N W hb
  clear hn hN h
  go_enter Tryz.func81, Tryz.ntmps81
  go_wp2_with fail
  go_loop [3, 11] (fun vs vi => ∃ (i m : Nat), i ≤ n ∧ vi = .int .i64 (i : Int) ∧ vs = .int .i64 (m : Int) ∧ Hid ((catE rs i).length = m)) (fun _ vi => n - (intOf vi).toNat)
  case atStart => exact ⟨0, 0, by omega, rfl, rfl, rfl⟩
  case round =>
    obtain ⟨i, m, hi, rfl, rfl, HM⟩ := hrel
    have hmN : m ≤ N := by have h1 := catE_le rs hi; rw [HM.out, HNN.out] at h1; exact h1
    have hmi : (m : Int) ≤ 1000000 := by omega
    by_cases hlt : i < n
    · have hii : (i : Int) < n := by omega
      obtain ⟨b, off, r, rfl, hbb, hr, hc, hR⟩ := H.out.cellAt (i := i) (by have := HN.out; omega)
      have HCS := Lib.hid (catE_succ hr)
      have hm2 : m + r.l.length ≤ N := by have h1 := catE_le rs (show i + 1 ≤ n from hlt); rw [HCS.out, List.length_append, HM.out, HNN.out] at h1; exact h1
      obtain ⟨RA, rc, rl⟩ := r
      dsimp only at hc hm2 HCS
      obtain ⟨rn, hrn⟩ : ∃ rn, rl.length = rn := ⟨_, rfl⟩
      rw [hrn] at hc hm2
      have HRN := Lib.hid hrn
      have hm2i : (m : Int) + (rn : Int) ≤ 1000000 := by omega
      clear hr hR hrn
      go_wp2_with fail
      go_round
      case rel => exact ⟨i + 1, m + rn, by omega, by go_num, by go_num, by unfold Hid; rw [HCS.out, List.length_append, HM.out, HRN.out]⟩
      case measure => simp [intOf]; omega
    · obtain rfl : i = n := by omega
      obtain rfl : m = N := by rw [← HM.out, HNN.out]
      have hii : (i : Int) ≤ i := Int.le_refl _
      go_wp2_with (go_at_call 142; refine (HGR.out _).mono ?_; rintro e w1 ⟨⟨A1, c1, rfl, ho1⟩, hb1⟩; have HO1 := Lib.hid ho1; clear ho1)
      go_loopw [6, 27] (fun vo vi wr => ∃ (j q : Nat) (A' : Option Addr) (c' : Nat), j ≤ i ∧ vi = .int .i64 (j : Int) ∧ vo = .slice A' q c' ∧ Hid ((catE rs j).length = q) ∧ Hid (OE w.heap.size wr A' c' (catE rs j)) ∧ Below w.heap.size w wr) (fun _ vi _ => i - (intOf vi).toNat)
      case atStart => exact ⟨0, 0, A1, c1, by omega, rfl, rfl, rfl, HO1.out, hb1⟩
      case round =>
        obtain ⟨j, q, A', c', hj, rfl, rfl, HQ, HO, hbel⟩ := hrel
        by_cases hlt2 : j < i
        · have hji : (j : Int) < i := by omega
          obtain ⟨b, off, r, rfl, hbb, hr, hc, hR⟩ := (H.out.on hbel).cellAt (i := j) (by have := HN.out; omega)
          have HCS := Lib.hid (catE_succ hr)
          have hm2 : q + r.l.length ≤ m := by have h1 := catE_le rs (show j + 1 ≤ i from hlt2); rw [HCS.out, List.length_append, HQ.out, HNN.out] at h1; exact h1
          obtain ⟨RA, rc, rl⟩ := r
          dsimp only at hc hm2 HCS hR
          obtain ⟨rn, hrn⟩ : ∃ rn, rl.length = rn := ⟨_, rfl⟩
          rw [hrn] at hc hm2
          have HRN := Lib.hid hrn
          have HR := Lib.hid hR
          clear hr hR hrn
          go_wp2_with (at_builtin; refine wpList_append_ents _ rfl (.tmp 31) (.tmp 32) rfl w.heap.size A' q c' (catE rs j) HQ.out rfl HO.out RA rn rc rl HRN.out rfl (HR.out.src HRN.out) (by omega) hbel.size ?_; intro A5 c5 w5 hon5 hbl5 hg5; have HON5 := Lib.hid hon5; have b5 := hbel.trans hbl5; clear hon5 hg5 hbl5)
          go_roundw
          case rel => exact ⟨j + 1, q + rn, A5, c5, by omega, by go_num, rfl, by unfold Hid; rw [HCS.out, List.length_append, HQ.out, HRN.out], by rw [HCS.out]; exact HON5.out, b5⟩
          case measure => simp [intOf]; omega
        · obtain rfl : j = i := by omega
          obtain rfl : q = m := by rw [← HQ.out, HNN.out]
          go_wp2_with fail
          go_ret
          exact ⟨⟨A', c', rfl, HO.out⟩, hbel⟩
theorem ConcatE_any (A : Option Addr) (c : Nat) (rs : List ERow) (w : World) {n N : Nat} (hn : rs.length = n) (h : RE w A c rs) (hN : (catE rs n).length = N) (h0 : 0 < N) (hb : N ≤ 1000000) :
    Calls Tryz.prog 81 #[.slice A n c] w fun e w' => (∃ A' c', e = .returned (.slice A' N c') ∧ OE w.heap.size w' A' c' (catE rs n)) ∧ Below w.heap.size w w' := ConcatE_all A c rs w hn h hN hb
end Go.Proofs.YtinpiodfpnbllaaGreatDoor

/- Lists of entries sorted, compacted, pruned, cloned and compared. -/
namespace Go.Proofs.YtinpiodfpnbllaaGreatDoor
open Go.RowKit
set_option linter.unusedVariables false
set_option linter.unusedSimpArgs false

theorem sortO_any {B : Nat} (A : Option Addr) (c : Nat) (es : List Ent) (w : World) {n : Nat} (hn : es.length = n) (h : OE B w A c es) (hB : B ≤ w.heap.size) (hs : n ≤ 1000000) :
    Calls Tryz.prog 82 #[.slice A n c, .func (.func 83) #[] #[]] w fun e w' => e = .returned (.tuple #[]) ∧ OE B w' A c (sortE es) ∧ Below B w w' := by
  by_cases h0 : es = []
  · subst h0
    obtain rfl : n = 0 := by simpa using hn.symm
    refine (sort_none A c _ w).mono fun e w' ⟨he, hw⟩ => ⟨he, ?_⟩
    subst hw
    exact ⟨by simpa [sortE] using h, Below.refl _ _⟩
  · obtain ⟨g, rfl, hE⟩ := EB.of_own h h0
    refine (sort_any es g c w hn hE hB hs).mono fun e w' ⟨he, h1, h2⟩ => ⟨he, h1.own, h2⟩
theorem compactO_any {B : Nat} (A : Option Addr) (c : Nat) (es : List Ent) (w : World) {n : Nat} (hn : es.length = n) (h : OE B w A c es) (hB : B ≤ w.heap.size) (hs : n ≤ 1000000) :
    Calls Tryz.prog 86 #[.slice A n c, .func (.func 87) #[] #[]] w fun e w' => e = .returned (.slice A (compE es).length c) ∧ OE B w' A c (compE es) ∧ Below B w w' := by
  by_cases h2 : n < 2
  · refine (compact_short A n c _ w h2).mono fun e w' ⟨he, hw⟩ => ?_
    subst hw
    rw [compE_short (by omega), hn]
    exact ⟨he, h, Below.refl _ _⟩
  · have h0 : es ≠ [] := fun he => by rw [he] at hn; simp at hn; omega
    obtain ⟨g, rfl, hE⟩ := EB.of_own h h0
    exact (compact_loop es g c w hn (by omega) hE hB hs).mono fun e w' ⟨he, h1, h2⟩ => ⟨he, h1.own, h2⟩
theorem deleteO_any {B : Nat} (A : Option Addr) (c : Nat) (es : List Ent) (z : Int) (p : Addr) (w : World) {n : Nat} (hn : es.length = n) (h : OE B w A c es) (hB : B ≤ w.heap.size) (hp : w.cell? p = some (.int .i64 z)) (hpB : p.block < B) (hs : n ≤ 1000000) :
    Calls Tryz.prog 100 #[.slice A n c, .func (.func 102) #[] #[.pointer (some p)]] w fun e w' => e = .returned (.slice A (pruneS es z).length c) ∧ OE B w' A c (pruneS es z) ∧ Below B w w' := by
  by_cases h0 : es = []
  · subst h0
    obtain rfl : n = 0 := by simpa using hn.symm
    refine (delete_none A c _ w).mono fun e w' ⟨he, hw⟩ => ?_
    subst hw
    exact ⟨he, h, Below.refl _ _⟩
  · obtain ⟨g, rfl, hE⟩ := EB.of_own h h0
    have h1 : 1 ≤ n := by have := List.length_pos_iff.2 h0; omega
    exact (delete_any es z p g c w hn h1 hE hB hp hpB hs).mono fun e w' ⟨he, h1, h2⟩ => ⟨he, h1.own, h2⟩

theorem eql_ents_nil (w : World) (a : Option Addr) (n c n' c' : Nat) : (binOp .eql 56 (.slice a n c) (.slice none n' c')).run Tryz.prog w = .ok (.bool a.isNone) w := Lib.run_eql_slice_nil w _ _ a n c n' c' Tryz.underlying56
attribute [local go_sem] eql_ents_nil
theorem ER.none_nil {w : World} {c : Nat} {es : List Ent} (h : ER w none c es) : es = [] := by
  apply Classical.byContradiction
  intro hne
  obtain ⟨g, off, e, _⟩ := h.2 (by have := List.length_pos_iff.2 hne; omega)
  cases e
theorem OE.lit0 (B : Nat) (w : World) (hB : B ≤ w.heap.size) : OE B (w.alloc (.cells #[] 98)) (some ⟨w.heap.size, 0, none⟩) 0 [] := World.ownsRow_lit w #[] 0 hB (by simp [maxLen]) (by simp)
set_option maxHeartbeats 1000000 in
theorem cloneE_any (A : Option Addr) (c : Nat) (es : List Ent) (w : World) {n : Nat} (hn : es.length = n) (h : ER w A c es) (hs : n ≤ 1000000) :
    Calls Tryz.prog 101 #[.slice A n c] w fun e w' => (∃ A' c', e = .returned (.slice A' n c') ∧ OE w.heap.size w' A' c' es) ∧ Below w.heap.size w w' := by
  have HN := Lib.hid hn
  have H := Lib.hid h
  cases A with
  | none =>
    have hb := h.none_nil
    subst hb
    obtain rfl : n = 0 := by simpa using hn.symm
    clear hn h
    go_enter Tryz.func101, Tryz.ntmps101
    go_wp2_with fail
    go_ret
    exact ⟨⟨none, 0, rfl, World.ownsRow_nil _ _ _ _⟩, Below.refl _ _⟩
  | some a =>
    clear hn h
    go_enter Tryz.func101, Tryz.ntmps101
    go_wp2_with (at_builtin; refine wpList_append_ents _ rfl (.tmp 5) (.tmp 6) rfl w.heap.size (some ⟨w.heap.size, 0, none⟩) 0 0 [] rfl rfl (OE.lit0 _ _ (Nat.le_refl _)) (some a) n c es HN.out rfl ((H.out.below (alloc_bel _ _)).src HN.out) (by omega) (by simp) ?_; intro A1 c1 w1 hon1 hbl1 hg1; clear hg1; have HON1 := Lib.hid hon1; clear hon1; simp only [Nat.zero_add])
    go_ret
    exact ⟨⟨A1, c1, rfl, HON1.out⟩, (alloc_bel w _).trans hbl1⟩

set_option maxHeartbeats 2000000 in
set_option maxRecDepth 100000 in
theorem sameEnts_any (es : List Ent) (A : Option Addr) (c : Nat) (X : Option Addr) (d : Nat) (w : World) {n : Nat} (hn : es.length = n) (h : ER w A c es) (h' : ER w X d es) :
    Calls Tryz.prog 31 #[.slice A n c, .slice X n d] w fun e w' => e = .returned (.bool true) ∧ Below w.heap.size w w' := by
  have hnl : (n : Int) ≤ 140737488351232 := by have := h.len; omega
  have HN := Lib.hid hn
  have H := Lib.hid h
  have H' := Lib.hid h'
  clear hn h h'
  go_enter Tryz.func31, Tryz.ntmps31
  go_wp2_with fail
  go_loopw [5] (fun vi wr => ∃ i : Nat, i ≤ n ∧ vi = .int .i64 (i : Int) ∧ Below w.heap.size w wr) (fun vi _ => n - (intOf vi).toNat)
  case atStart => exact ⟨0, by omega, rfl, Below.refl _ _⟩
  case round =>
    obtain ⟨i, hi, rfl, hbel⟩ := hrel
    by_cases hlt : i < n
    · have hii : (i : Int) < n := by omega
      have hi0 : (0 : Int) ≤ i := by omega
      obtain ⟨b, off, rfl, hb, c0, c1⟩ := (H.out.below hbel).at_ (i := i) (by have := HN.out; omega)
      obtain ⟨b', off', rfl, hb', d0, d1⟩ := (H'.out.below hbel).at_ (i := i) (by have := HN.out; omega)
      obtain ⟨x, hx⟩ : ∃ x, es[i]'(by have := HN.out; omega) = x := ⟨_, rfl⟩
      rw [hx] at c0 c1 d0 d1
      obtain ⟨x0, x1⟩ := x
      simp only at c0 c1 d0 d1
      clear hx
      go_wp2_with fail
      go_quiet (fail)
      go_wp2_with fail
      go_roundw
      case rel => exact ⟨i + 1, by omega, by go_num, below_drewN hbel _⟩
      case measure => simp [intOf]; omega
    · obtain rfl : i = n := by omega
      have hii : (i : Int) ≤ i := Int.le_refl _
      go_wp2_with fail
      go_ret
      exact ⟨rfl, hbel⟩
end Go.Proofs.YtinpiodfpnbllaaGreatDoor

/- Whether a revocation list is valid: the program's and the reference's. -/
namespace Go.Proofs.YtinpiodfpnbllaaGreatDoor
open Go.RowKit
set_option linter.unusedVariables false
set_option linter.unusedSimpArgs false

theorem step_bad {b : Bool} {r u : Int} {z : Bool} (h : b = (okE (r, u) && z)) (hn : ¬ (0 ≤ r ∧ r < 64 ∧ 0 ≤ u ∧ u ≤ 1099511627776)) : b = false := by
  cases e : okE (r, u) with
  | false => rw [h, e]; rfl
  | true => exact absurd (okE_iff.1 e) hn
theorem step_low {b : Bool} {i : Nat} {p r u : Int} (h : b = (okE (r, u) && (decide (i = 0) || decide (p < r)))) (hi : 1 ≤ i) (hp : r ≤ p) : b = false := by
  have e1 : decide (i = 0) = false := decide_eq_false (by omega)
  have e2 : decide (p < r) = false := decide_eq_false (by omega)
  rw [h, e1, e2, Bool.or_false, Bool.and_false]
theorem step_good {b : Bool} {i : Nat} {p r u : Int} (h : b = (okE (r, u) && (decide (i = 0) || decide (p < r)))) (hn : 0 ≤ r ∧ r < 64 ∧ 0 ≤ u ∧ u ≤ 1099511627776) (hp : i = 0 ∨ p < r) : b = true := by
  rw [h, Bool.and_eq_true, Bool.or_eq_true, decide_eq_true_eq, decide_eq_true_eq]
  exact ⟨okE_iff.2 hn, hp⟩
def ckL (b : Bool) : Int := if b = true then 0 else 90

set_option maxHeartbeats 4000000 in
set_option maxRecDepth 100000 in
theorem checkList_any (es : List Ent) (A : Option Addr) (c : Nat) (w : World) {n : Nat} (hn : es.length = n) (h : ER w A c es) :
    Calls Tryz.prog 30 #[.slice A n c] w fun e w' => e = .returned (.int .i64 (ckL (validL es))) ∧ Below w.heap.size w w' := by
  have hnl : (n : Int) ≤ 140737488351232 := by have := h.len; omega
  have HN := Lib.hid hn
  have H := Lib.hid h
  clear hn h
  go_enter Tryz.func30, Tryz.ntmps30
  go_wp2_with fail
  go_loopw [7] (fun vi wr => ∃ i : Nat, i ≤ n ∧ vi = .int .i64 (i : Int) ∧ Hid (validL (es.take i) = true) ∧ Below w.heap.size w wr) (fun vi _ => n - (intOf vi).toNat)
  case atStart => exact ⟨0, by omega, rfl, by unfold Hid; rfl, Below.refl _ _⟩
  case round =>
    obtain ⟨i, hi, rfl, HV, hbel⟩ := hrel
    by_cases hlt : i < n
    · have hii : (i : Int) < n := by omega
      have hil : i < es.length := by have := HN.out; omega
      have hcp := Rd.cap H.out
      have hle := Rd.le H.out
      obtain ⟨b, off, rfl, hb, hc0, hc1⟩ := (H.out.below hbel).at_ hil
      have HST := Lib.hid (validL_step hil HV.out)
      have HER := Lib.hid (H.out.below hbel)
      have hpv : i ≠ 0 → wr.cell? ⟨b, off + (i - 1) * 2, none⟩ = some (.int .i64 (es.getD (i - 1) (0, 0)).1) := fun h0 => by
        obtain ⟨b', off', e, _, hc, _⟩ := HER.out.at_ (i := i - 1) (by omega)
        injection e with e
        injection e with e1 e2
        subst e1 e2
        rw [hc, List.getD_eq_getElem?_getD, List.getElem?_eq_getElem (by omega)]; rfl
      have HPV := Lib.hid hpv
      obtain ⟨x, hx⟩ : ∃ x, es[i] = x := ⟨_, rfl⟩
      rw [hx] at hc0 hc1 HST
      obtain ⟨r, u⟩ := x
      obtain ⟨p, hp⟩ : ∃ p, (es.getD (i - 1) (0, 0)).1 = p := ⟨_, rfl⟩
      simp only [hp] at hpv HPV HST
      clear hpv hil hp hx hcp hle
      have HBAD : validL (es.take (i + 1)) = false → Hid (validL es = false) := fun hb => validL_bad hb
      have ways : r < 0 ∨ (0 ≤ r ∧ 64 ≤ r) ∨ (0 ≤ r ∧ r < 64 ∧ u < 0) ∨ (0 ≤ r ∧ r < 64 ∧ 0 ≤ u ∧ 1099511627776 < u) ∨ (0 ≤ r ∧ r < 64 ∧ 0 ≤ u ∧ u ≤ 1099511627776 ∧ i = 0) ∨ (0 ≤ r ∧ r < 64 ∧ 0 ≤ u ∧ u ≤ 1099511627776 ∧ 1 ≤ i ∧ r ≤ p) ∨ (0 ≤ r ∧ r < 64 ∧ 0 ≤ u ∧ u ≤ 1099511627776 ∧ 1 ≤ i ∧ p < r) := by omega
      simp only at hc0 hc1
      have HC0 := Lib.hid hc0
      have HC1 := Lib.hid hc1
      clear hc0 hc1
      rcases ways with h1 | ⟨h1, h2⟩ | ⟨h1, h2, h3⟩ | ⟨h1, h2, h3, h4⟩ | ⟨h1, h2, h3, h4, h5⟩ | ⟨h1, h2, h3, h4, h5, h6⟩ | ⟨h1, h2, h3, h4, h5, h6⟩
      · skip
        have s0 : decide (r < 0) = true := by simp; omega
        have HF := HBAD (step_bad HST.out (by omega))
        have c0 := HC0.out
        have c1 := HC1.out
        clear HBAD HST h1
        go_wp2_with fail
        have hbb : b < (wr.alloc (.cells #[.int .i64 r, .int .i64 u] 98)).heap.size := Nat.lt_of_lt_of_le hb (by simp)
        have d0 : (wr.alloc (.cells #[.int .i64 r, .int .i64 u] 98)).cell? ⟨wr.heap.size, 0, none⟩ = some (.int .i64 r) := (Blk.new wr _ _).cell 0
        have d1 : (wr.alloc (.cells #[.int .i64 r, .int .i64 u] 98)).cell? ⟨wr.heap.size, 1, none⟩ = some (.int .i64 u) := (Blk.new wr _ _).cell 1
        have B2 := bel_on hbel (alloc_bel wr (.cells #[.int .i64 r, .int .i64 u] 98))
        clear c0 c1
        generalize wr.alloc (.cells #[.int .i64 r, .int .i64 u] 98) = W2 at d0 d1 B2 hbb ⊢
        go_quiet (fail)
        go_wp2_with fail
        go_ret
        exact ⟨by rw [HF.out]; rfl, below_drewN B2 _⟩
      · skip
        have s0 : decide (r < 0) = false := by simp; omega
        have s1 : decide (64 ≤ r) = true := by simp; omega
        have HF := HBAD (step_bad HST.out (by omega))
        have c0 := HC0.out
        have c1 := HC1.out
        clear HBAD HST h1 h2
        go_wp2_with fail
        have hbb : b < (wr.alloc (.cells #[.int .i64 r, .int .i64 u] 98)).heap.size := Nat.lt_of_lt_of_le hb (by simp)
        have d0 : (wr.alloc (.cells #[.int .i64 r, .int .i64 u] 98)).cell? ⟨wr.heap.size, 0, none⟩ = some (.int .i64 r) := (Blk.new wr _ _).cell 0
        have d1 : (wr.alloc (.cells #[.int .i64 r, .int .i64 u] 98)).cell? ⟨wr.heap.size, 1, none⟩ = some (.int .i64 u) := (Blk.new wr _ _).cell 1
        have B2 := bel_on hbel (alloc_bel wr (.cells #[.int .i64 r, .int .i64 u] 98))
        clear c0 c1
        generalize wr.alloc (.cells #[.int .i64 r, .int .i64 u] 98) = W2 at d0 d1 B2 hbb ⊢
        go_quiet (fail)
        go_wp2_with fail
        go_ret
        exact ⟨by rw [HF.out]; rfl, below_drewN B2 _⟩
      · skip
        have s0 : decide (r < 0) = false := by simp; omega
        have s1 : decide (64 ≤ r) = false := by simp; omega
        have s2 : decide (u < 0) = true := by simp; omega
        have HF := HBAD (step_bad HST.out (by omega))
        have c0 := HC0.out
        have c1 := HC1.out
        clear HBAD HST h1 h2 h3
        go_wp2_with fail
        have hbb : b < (wr.alloc (.cells #[.int .i64 r, .int .i64 u] 98)).heap.size := Nat.lt_of_lt_of_le hb (by simp)
        have d0 : (wr.alloc (.cells #[.int .i64 r, .int .i64 u] 98)).cell? ⟨wr.heap.size, 0, none⟩ = some (.int .i64 r) := (Blk.new wr _ _).cell 0
        have d1 : (wr.alloc (.cells #[.int .i64 r, .int .i64 u] 98)).cell? ⟨wr.heap.size, 1, none⟩ = some (.int .i64 u) := (Blk.new wr _ _).cell 1
        have B2 := bel_on hbel (alloc_bel wr (.cells #[.int .i64 r, .int .i64 u] 98))
        clear c0 c1
        generalize wr.alloc (.cells #[.int .i64 r, .int .i64 u] 98) = W2 at d0 d1 B2 hbb ⊢
        go_quiet (fail)
        go_wp2_with fail
        go_ret
        exact ⟨by rw [HF.out]; rfl, below_drewN B2 _⟩
      · skip
        have s0 : decide (r < 0) = false := by simp; omega
        have s1 : decide (64 ≤ r) = false := by simp; omega
        have s2 : decide (u < 0) = false := by simp; omega
        have s3 : decide (1099511627776 < u) = true := by simp; omega
        have HF := HBAD (step_bad HST.out (by omega))
        have c0 := HC0.out
        have c1 := HC1.out
        clear HBAD HST h1 h2 h3 h4
        go_wp2_with fail
        have hbb : b < (wr.alloc (.cells #[.int .i64 r, .int .i64 u] 98)).heap.size := Nat.lt_of_lt_of_le hb (by simp)
        have d0 : (wr.alloc (.cells #[.int .i64 r, .int .i64 u] 98)).cell? ⟨wr.heap.size, 0, none⟩ = some (.int .i64 r) := (Blk.new wr _ _).cell 0
        have d1 : (wr.alloc (.cells #[.int .i64 r, .int .i64 u] 98)).cell? ⟨wr.heap.size, 1, none⟩ = some (.int .i64 u) := (Blk.new wr _ _).cell 1
        have B2 := bel_on hbel (alloc_bel wr (.cells #[.int .i64 r, .int .i64 u] 98))
        clear c0 c1
        generalize wr.alloc (.cells #[.int .i64 r, .int .i64 u] 98) = W2 at d0 d1 B2 hbb ⊢
        go_quiet (fail)
        go_wp2_with fail
        go_ret
        exact ⟨by rw [HF.out]; rfl, below_drewN B2 _⟩
      · skip
        have s0 : decide (r < 0) = false := by simp; omega
        have s1 : decide (64 ≤ r) = false := by simp; omega
        have s2 : decide (u < 0) = false := by simp; omega
        have s3 : decide (1099511627776 < u) = false := by simp; omega
        subst h5
        have s4 : decide ((0 : Int) < ((0 : Nat) : Int)) = false := by simp
        have s5 : decide ((0 : Nat) < 0) = false := by simp
        have HT := Lib.hid (step_good HST.out ⟨h1, h2, h3, h4⟩ (Or.inl rfl))
        have c0 := HC0.out
        have c1 := HC1.out
        simp only [Nat.zero_mul, Nat.add_zero] at c0 c1
        clear HBAD HST h1 h2 h3 h4
        go_wp2_with fail
        have hbb : b < (wr.alloc (.cells #[.int .i64 r, .int .i64 u] 98)).heap.size := Nat.lt_of_lt_of_le hb (by simp)
        have d0 : (wr.alloc (.cells #[.int .i64 r, .int .i64 u] 98)).cell? ⟨wr.heap.size, 0, none⟩ = some (.int .i64 r) := (Blk.new wr _ _).cell 0
        have d1 : (wr.alloc (.cells #[.int .i64 r, .int .i64 u] 98)).cell? ⟨wr.heap.size, 1, none⟩ = some (.int .i64 u) := (Blk.new wr _ _).cell 1
        have B2 := bel_on hbel (alloc_bel wr (.cells #[.int .i64 r, .int .i64 u] 98))
        clear c0 c1
        generalize wr.alloc (.cells #[.int .i64 r, .int .i64 u] 98) = W2 at d0 d1 B2 hbb ⊢
        go_quiet (fail)
        go_wp2_with fail
        go_roundw
        case rel => exact ⟨0 + 1, by omega, by go_num, HT, below_drewN B2 _⟩
        case measure => simp [intOf]; omega
      · skip
        have s0 : decide (r < 0) = false := by simp; omega
        have s1 : decide (64 ≤ r) = false := by simp; omega
        have s2 : decide (u < 0) = false := by simp; omega
        have s3 : decide (1099511627776 < u) = false := by simp; omega
        have s4 : decide ((0 : Int) < (i : Int)) = true := by simp; omega
        have s5 : decide (0 < i) = true := by simp; omega
        have hpc : wr.cell? ⟨b, off + (i - 1) * 2, none⟩ = some (.int .i64 p) := HPV.out (by omega)
        have HPC := Lib.hid hpc
        clear hpc
        have hw1 : IntKind.i64.wrap ((i : Int) - 1) = (i : Int) - 1 := by rw [IntKind.wrap_i64]; omega
        have hw2 : (0 : Int) ≤ (i : Int) - 1 := by omega
        have hw3 : (i : Int) - 1 < (n : Int) := by omega
        have hw4 : ((i : Int) - 1).toNat = i - 1 := by omega
        have hw5 : (1 : Int) ≤ (i : Int) := by omega
        have s6 : decide (r ≤ p) = true := by simp; omega
        have HF := HBAD (step_low HST.out h5 h6)
        have c0 := HC0.out
        have c1 := HC1.out
        clear HBAD HST h1 h2 h3 h4 h5 h6
        have c2 := HPC.out
        go_wp2_with fail
        have hbb : b < (wr.alloc (.cells #[.int .i64 r, .int .i64 u] 98)).heap.size := Nat.lt_of_lt_of_le hb (by simp)
        have d0 : (wr.alloc (.cells #[.int .i64 r, .int .i64 u] 98)).cell? ⟨wr.heap.size, 0, none⟩ = some (.int .i64 r) := (Blk.new wr _ _).cell 0
        have d1 : (wr.alloc (.cells #[.int .i64 r, .int .i64 u] 98)).cell? ⟨wr.heap.size, 1, none⟩ = some (.int .i64 u) := (Blk.new wr _ _).cell 1
        have d2 : (wr.alloc (.cells #[.int .i64 r, .int .i64 u] 98)).cell? ⟨b, off + (i - 1) * 2, none⟩ = some (.int .i64 p) := ((alloc_bel wr _).cell (p := ⟨b, off + (i - 1) * 2, none⟩) hb).trans HPC.out
        clear c2
        have B2 := bel_on hbel (alloc_bel wr (.cells #[.int .i64 r, .int .i64 u] 98))
        clear c0 c1
        generalize wr.alloc (.cells #[.int .i64 r, .int .i64 u] 98) = W2 at d0 d1 d2 B2 hbb ⊢
        go_quiet (fail)
        go_wp2_with fail
        go_ret
        exact ⟨by rw [HF.out]; rfl, below_drewN B2 _⟩
      · skip
        have s0 : decide (r < 0) = false := by simp; omega
        have s1 : decide (64 ≤ r) = false := by simp; omega
        have s2 : decide (u < 0) = false := by simp; omega
        have s3 : decide (1099511627776 < u) = false := by simp; omega
        have s4 : decide ((0 : Int) < (i : Int)) = true := by simp; omega
        have s5 : decide (0 < i) = true := by simp; omega
        have hpc : wr.cell? ⟨b, off + (i - 1) * 2, none⟩ = some (.int .i64 p) := HPV.out (by omega)
        have HPC := Lib.hid hpc
        clear hpc
        have hw1 : IntKind.i64.wrap ((i : Int) - 1) = (i : Int) - 1 := by rw [IntKind.wrap_i64]; omega
        have hw2 : (0 : Int) ≤ (i : Int) - 1 := by omega
        have hw3 : (i : Int) - 1 < (n : Int) := by omega
        have hw4 : ((i : Int) - 1).toNat = i - 1 := by omega
        have hw5 : (1 : Int) ≤ (i : Int) := by omega
        have s6 : decide (r ≤ p) = false := by simp; omega
        have HT := Lib.hid (step_good HST.out ⟨h1, h2, h3, h4⟩ (Or.inr h6))
        have c0 := HC0.out
        have c1 := HC1.out
        clear HBAD HST h1 h2 h3 h4 h5 h6
        have c2 := HPC.out
        go_wp2_with fail
        have hbb : b < (wr.alloc (.cells #[.int .i64 r, .int .i64 u] 98)).heap.size := Nat.lt_of_lt_of_le hb (by simp)
        have d0 : (wr.alloc (.cells #[.int .i64 r, .int .i64 u] 98)).cell? ⟨wr.heap.size, 0, none⟩ = some (.int .i64 r) := (Blk.new wr _ _).cell 0
        have d1 : (wr.alloc (.cells #[.int .i64 r, .int .i64 u] 98)).cell? ⟨wr.heap.size, 1, none⟩ = some (.int .i64 u) := (Blk.new wr _ _).cell 1
        have d2 : (wr.alloc (.cells #[.int .i64 r, .int .i64 u] 98)).cell? ⟨b, off + (i - 1) * 2, none⟩ = some (.int .i64 p) := ((alloc_bel wr _).cell (p := ⟨b, off + (i - 1) * 2, none⟩) hb).trans HPC.out
        clear c2
        have B2 := bel_on hbel (alloc_bel wr (.cells #[.int .i64 r, .int .i64 u] 98))
        clear c0 c1
        generalize wr.alloc (.cells #[.int .i64 r, .int .i64 u] 98) = W2 at d0 d1 d2 B2 hbb ⊢
        go_quiet (fail)
        go_wp2_with fail
        go_roundw
        case rel => exact ⟨i + 1, by omega, by go_num, HT, below_drewN B2 _⟩
        case measure => simp [intOf]; omega
    · obtain rfl : i = n := by omega
      have hii : (i : Int) ≤ i := Int.le_refl _
      have HT : Hid (validL es = true) := by unfold Hid; have := HV.out; rwa [List.take_of_length_le (by have := HN.out; omega)] at this
      go_wp2_with fail
      go_ret
      exact ⟨by rw [HT.out]; rfl, hbel⟩
end Go.Proofs.YtinpiodfpnbllaaGreatDoor

/- A list of entries with one at each end: the reference's. -/
namespace Go.Proofs.YtinpiodfpnbllaaGreatDoor
open Go.RowKit
set_option linter.unusedVariables false
set_option linter.unusedSimpArgs false

end Go.Proofs.YtinpiodfpnbllaaGreatDoor

/- Whether a pair is an entry: the program's and the reference's. -/
namespace Go.Proofs.YtinpiodfpnbllaaGreatDoor
open Go.RowKit
set_option linter.unusedVariables false
set_option linter.unusedSimpArgs false

theorem isE_no {r u : Int} (hn : ¬ (-1 ≤ r ∧ r ≤ 64 ∧ 0 ≤ u ∧ u ≤ 1099511627776)) : isE (r, u) = false := by
  cases e : isE (r, u) with
  | false => rfl
  | true => exact absurd (isE_iff.1 e) hn
theorem isE_yes {r u : Int} (hn : -1 ≤ r ∧ r ≤ 64 ∧ 0 ≤ u ∧ u ≤ 1099511627776) : isE (r, u) = true := isE_iff.2 hn

set_option maxHeartbeats 4000000 in
set_option maxRecDepth 100000 in
theorem isEntry_any (r u : Int) (w : World) :
    Calls Tryz.prog 116 #[.agg #[.int .i64 r, .int .i64 u]] w fun e w' => e = .returned (.bool (isE (r, u))) ∧ Below w.heap.size w w' := by
  have d0 : (w.alloc (.cells #[.int .i64 r, .int .i64 u] 98)).cell? ⟨w.heap.size, 0, none⟩ = some (.int .i64 r) := (Blk.new w _ _).cell 0
  have d1 : (w.alloc (.cells #[.int .i64 r, .int .i64 u] 98)).cell? ⟨w.heap.size, 1, none⟩ = some (.int .i64 u) := (Blk.new w _ _).cell 1
  have B2 := alloc_bel w (.cells #[.int .i64 r, .int .i64 u] 98)
  go_enter Tryz.func116, Tryz.ntmps116
  go_wp2_with fail
  all_goals (go_ret; refine ⟨?_, B2⟩; clear d0 d1 B2; simp_all [isE] <;> omega)

end Go.Proofs.YtinpiodfpnbllaaGreatDoor

/- The leaf of an entry: the program's. -/
namespace Go.Proofs.YtinpiodfpnbllaaGreatDoor
open Go.RowKit
set_option linter.unusedVariables false
set_option linter.unusedSimpArgs false

/-- The leaf after i bytes of the time. -/
def leafP (v : UInt8) (m i : Nat) : List UInt8 := (List.range 16).map fun j => if j = 7 then v else if 15 - j < i then UInt8.ofNat (m / 256 ^ (15 - j)) else 0
theorem leafP_length (v : UInt8) (m i : Nat) : (leafP v m i).length = 16 := by simp [leafP]
theorem leafP_zero (v : UInt8) (m : Nat) : leafP v m 0 = [0, 0, 0, 0, 0, 0, 0, v, 0, 0, 0, 0, 0, 0, 0, 0] := by simp [leafP, List.range, List.range.loop]
theorem leafP_step (v : UInt8) (m i : Nat) (hi : i < 8) : (leafP v m i).set (15 - i) (UInt8.ofNat (m / 256 ^ i)) = leafP v m (i + 1) := by
  refine List.ext_getElem (by simp [leafP]) fun j h1 h2 => ?_
  have hj : j < 16 := by simpa [leafP] using h2
  simp only [leafP, List.getElem_set, List.getElem_map, List.getElem_range]
  by_cases h : 15 - i = j
  · subst h
    rw [if_pos rfl, if_neg (by omega), if_pos (by omega), show 15 - (15 - i) = i from by omega]
  · rw [if_neg h]
    by_cases h3 : j = 7
    · rw [if_pos h3, if_pos h3]
    · rw [if_neg h3, if_neg h3]
      by_cases h4 : 15 - j < i
      · rw [if_pos h4, if_pos (by omega)]
      · rw [if_neg h4, if_neg (by omega)]
theorem leafP_8 (r : Int) (m : Nat) : leafP (UInt8.ofNat (r + 1).toNat) m 8 = leafE (r, (m : Int)) := by
  simp [leafP, leafE, be8, List.range, List.range.loop]
theorem leaf_byte (m i : Nat) (hi : i < 8) : (m : Int) / 2 ^ (8 * i) % 256 = (((UInt8.ofNat (m / 256 ^ i)).toNat : Nat) : Int) := by
  have e : (2 : Int) ^ (8 * i) = ((256 ^ i : Nat) : Int) := by rw [Int.pow_mul]; simp
  rw [e]
  simp
theorem leaf_first {r : Int} (h0 : -1 ≤ r) (h1 : r ≤ 64) : IntKind.u8.wrap (r + 1) = (((UInt8.ofNat (r + 1).toNat).toNat : Nat) : Int) := by
  rw [IntKind.wrap_u8]; simp; omega

set_option maxHeartbeats 4000000 in
set_option maxRecDepth 100000 in
theorem leaf_any (r u : Int) (w : World) (hx : isE (r, u) = true) :
    Calls Tryz.prog 117 #[.agg #[.int .i64 r, .int .i64 u]] w fun e w' => e = .returned (.agg (cellsB (leafE (r, u))).toArray) ∧ Below w.heap.size w w' := by
  obtain ⟨h0, h1, h2, h3⟩ := isE_iff.1 hx
  simp only at h0 h1 h2 h3
  obtain ⟨m, rfl⟩ := Int.eq_ofNat_of_zero_le h2
  have hb1 : IntKind.i64.wrap (r + 1) = r + 1 := by rw [IntKind.wrap_i64]; omega
  have hb2 := leaf_first h0 h1
  have HV8 := Lib.hid (leafP_8 r m)
  generalize UInt8.ofNat (r + 1).toNat = v at hb2 HV8
  have HZ := Lib.hid zero16
  clear hx h2
  go_enter Tryz.func117, Tryz.ntmps117
  go_wp2_with fail
  go_loopw [10] (fun vi wr => ∃ i : Nat, i ≤ 8 ∧ vi = .int .i64 (i : Int) ∧ Hid (Blk wr w.heap.size 98 #[.int .i64 r, .int .i64 (m : Int)]) ∧ Hid (Blk wr (w.heap.size + 1) 24 (cellsB zeroK).toArray) ∧ Hid (Blk wr (w.heap.size + 1 + 1) 24 (cellsB (leafP v m i)).toArray) ∧ Below w.heap.size w wr) (fun vi _ => 8 - (intOf vi).toNat)
  case atStart => exact ⟨0, by omega, rfl, blk_a0 _ _ _ _ _, blk_a1 _ _ _ _ _, by rw [leafP_zero]; exact blk_a2 _ _ _ _ _, alloc3_bel _ _ _ _⟩
  case round =>
    obtain ⟨i, hi, rfl, HB0, HB1, HB2, hbel⟩ := hrel
    by_cases hlt : i < 8
    · have hii : (i : Int) < 8 := by omega
      have e1 : IntKind.i64.wrap (15 - (i : Int)) = 15 - (i : Int) := by rw [IntKind.wrap_i64]; omega
      have e2 : IntKind.i64.wrap (8 * (i : Int)) = 8 * (i : Int) := by rw [IntKind.wrap_i64]; omega
      have e3 : (15 - (i : Int)).toNat = 15 - i := by omega
      have e4 : (8 * (i : Int)).toNat = 8 * i := by omega
      have HV := Lib.hid (leaf_byte m i hlt)
      have HS := Lib.hid (leafP_step v m i hlt)
      generalize UInt8.ofNat (m / 256 ^ i) = x at HV HS
      have c1 := HB0.out.cell 1
      have d1 := (HB2.out.cell (15 - i)).trans (bytes_get _ (15 - i) (by rw [leafP_length]; omega))
      have f1 := HB2.out.frozen (15 - i)
      have HB3 : Hid (Blk (wr.setCell ⟨w.heap.size + 1 + 1, 15 - i, none⟩ (.int .u8 (x.toNat : Int))) (w.heap.size + 1 + 1) 24 (cellsB (leafP v m (i + 1))).toArray) := by
        have := HB2.out.set_ (15 - i) (.int .u8 (x.toNat : Int))
        rw [bytes_set, HS.out] at this
        exact this
      go_wp2_with fail
      rw [HV.out]
      go_roundw
      case rel => exact ⟨i + 1, by omega, by go_num, HB0.out.far (p := ⟨w.heap.size + 1 + 1, 15 - i, none⟩) (by simp; omega) _, HB1.out.far (p := ⟨w.heap.size + 1 + 1, 15 - i, none⟩) (by simp) _, HB3.out, hbel.setCell (p := ⟨w.heap.size + 1 + 1, 15 - i, none⟩) (by simp; omega) _⟩
      case measure => simp [intOf]; omega
    · obtain rfl : i = 8 := by omega
      have hL := leafE_length (r, (m : Int))
      rw [HV8.out] at HB2
      obtain ⟨t, ht⟩ : ∃ t, leafE (r, (m : Int)) = t := ⟨_, rfl⟩
      rw [ht] at HB2 hL
      have HT := Lib.hid ht
      clear ht
      go_wp2_with (first
        | (refine wpList_load_row rfl 24 (.tmp 3) rfl (w.heap.size + 1 + 1) rfl 24 (cellsB t).toArray (0, 0) _ HB2.out under_key rfl (cellsB_size _ hL) ?_)
        | (refine wpList_store_row rfl 24 (.tmp 2) (.tmp 23) rfl (w.heap.size + 1) (cellsB t).toArray rfl rfl 24 (cellsB zeroK).toArray HB1.out (cellsB_size _ hL) (cellsB_sizes _ _ zeroK_length hL) (cellsB_all _) ?_))
      exact bodyPost_ret (results_cell_row rfl _ _ (w.heap.size + 1) _ _ (0, 0) _ rfl (HB1.out.setRow (cellsB t).toArray) under_key rfl (cellsB_size _ hL)) rfl ⟨by rw [HT.out], below_setRow hbel (by omega) _⟩
end Go.Proofs.YtinpiodfpnbllaaGreatDoor

/- The texts of a list: the reference's. -/
namespace Go.Proofs.YtinpiodfpnbllaaGreatDoor
open Go.RowKit
set_option linter.unusedVariables false
set_option linter.unusedSimpArgs false

section
variable {md : Region.Mode} {ops : Array Oper} {Q : Exit → Act → World → Prop} {S : World → Prop} {fuel : Nat} {listed : Array Bool} {a : Act} {w : World}
/-- append to rows that the call owns, the only operation that may come up. -/
theorem hd_appendR (i : Nat) {oi : Oper} (s x : Operand) (hi : ops[i]? = some oi) (ho : oi.op = .call { callee := .builtin .append, args := #[s, x], argTypes := #[71, 71] }) (hg : oi.guard = none) (hr : Region.ready md ops listed = [i])
    (B : Nat) (A : Option Addr) (n c : Nat) (rs : List BRow) (hn : rs.length = n) (hs : a.eval s = .slice A n c) (hown : RO B w A c rs)
    (X : Option Addr) (m d : Nat) (news : List BRow) (hm : news.length = m) (hx : a.eval x = .slice X m d) (hsrc : Src w 1 X m (news.map BRow.v)) (hlen : n + m ≤ 1000000) (hB : B ≤ w.heap.size)
    (h : ∀ A' c' w', RO B w' A' c' (rs ++ news) → Below B w w' → w.grownBy w' (Value.ownBlock (.slice A n c)) → S w' ∧ wpAnyH Tryz.prog md ops Q S fuel (listed.setIfInBounds i true) (a.put oi.dst (.slice A' (n + m) c')) w') : wpAnyH Tryz.prog md ops Q S (fuel + 1) listed a w := by
  obtain ⟨i0, hi0, hz0, hz1, hz2⟩ := info_parts rows_info
  subst hn hm
  obtain ⟨A', c', w', hrun, h2, h3, h4⟩ := run_append_src (P := Tryz.prog) w B 71 oi.type 22 i0 (.slice none 0 0) 1 24 Tryz.underlying71 hi0 hz0 hz1 hz2 rfl (by omega) A rs.length c (rs.map BRow.v) hown X news.length d (news.map BRow.v) hsrc (by intro u hu; obtain ⟨r, _, rfl⟩ := List.mem_map.1 hu; rfl) (by simp only [maxLen]; omega) (by omega) hB
  refine hd_one i hi hg hr ?_
  refine Lib.wp_append_run w s x 71 71 ho _ _ hs hx _ w' hrun ?_
  refine h A' c' w' ?_ (grown_below (Below.refl _ _) hown h3 hB (Nat.le_refl _)) h3
  unfold RO
  rw [List.map_append, List.length_append]
  exact h2
end
/-- Texts that the call owns. -/
def TO (B : Nat) (w : World) (A : Option Addr) (c : Nat) (rs : List BRow) (ts : List (List UInt8)) : Prop := rs.map BRow.l = ts ∧ RO B w A c rs ∧ ∀ r ∈ rs, OB B w r.A r.c r.l
theorem TO.below {B : Nat} {w w' : World} {A : Option Addr} {c : Nat} {rs : List BRow} {ts : List (List UInt8)} (h : TO B w A c rs ts) (hb : Below w.heap.size w w') : TO B w' A c rs ts := ⟨h.1, h.2.1.below hb, fun r hr => (h.2.2 r hr).below hb⟩
theorem RO.le_ {B B' : Nat} {w : World} {A : Option Addr} {c : Nat} {rs : List BRow} (h : RO B w A c rs) (hB : B' ≤ B) : RO B' w A c rs :=
  ⟨h.1, h.2.elim Or.inl (fun ⟨g, cap, cur, hv, hg, r⟩ => Or.inr ⟨g, cap, cur, hv, Nat.le_trans hB hg, r⟩)⟩
theorem TO.le_ {B B' : Nat} {w : World} {A : Option Addr} {c : Nat} {rs : List BRow} {ts : List (List UInt8)} (h : TO B w A c rs ts) (hB : B' ≤ B) : TO B' w A c rs ts := ⟨h.1, h.2.1.le_ hB, fun r hr => (h.2.2 r hr).le_ hB⟩
theorem TO.len {B : Nat} {w : World} {A : Option Addr} {c : Nat} {rs : List BRow} {ts : List (List UInt8)} (h : TO B w A c rs ts) : rs.length = ts.length := by rw [← h.1, List.length_map]
theorem TO.rr {B : Nat} {w : World} {A : Option Addr} {c : Nat} {rs : List BRow} {ts : List (List UInt8)} (h : TO B w A c rs ts) (hl : ts.length ≤ 100000) (hb : ∀ t ∈ ts, t.length ≤ 1000) : RR w A c rs :=
  h.2.1.rr (by rw [h.len]; omega) fun r hr => (h.2.2 r hr).br (by have := hb r.l (by rw [← h.1]; exact List.mem_map.2 ⟨r, hr, rfl⟩); omega)
theorem RO.lit (B : Nat) (w : World) (r : BRow) (hB : B ≤ w.heap.size) : RO B (w.alloc (.cells #[r.v] 22)) (some ⟨w.heap.size, 0, none⟩) 1 [r] := by
  have h := World.ownsRow_lit (e := 22) (size := 1) w #[r.v] 1 hB (by simp [maxLen]) (by simp)
  unfold RO
  simpa using h
theorem textsS_short : ∀ (n : Nat) (l : List (List UInt8)), l.length = n → (∀ k ∈ l, k.length = 16) → ∀ t ∈ textsS l, t.length ≤ 1000 := by
  intro n
  induction n using Nat.strongRecOn with
  | _ n ih =>
    intro l hl hk t ht
    rcases Nat.lt_or_ge n 2 with h2 | h2
    · rcases Nat.lt_or_ge n 1 with h1 | h1
      · rw [List.eq_nil_of_length_eq_zero (show l.length = 0 by omega), textsS_nil, List.mem_singleton] at ht
        subst ht; simp
      · obtain ⟨x, rfl⟩ := List.length_eq_one_iff.1 (show l.length = 1 by omega)
        rw [textsS_one, List.mem_singleton] at ht
        subst ht
        have := hk x (by simp)
        simp [leafT, this]
    have s1 := splitS_lt h2
    have s2 := splitS_pos n
    rw [textsS_node (by omega), hl] at ht
    rcases List.mem_append.1 ht with ht | ht
    · exact ih (splitS n) s1 _ (by rw [List.length_take]; omega) (fun k h => hk k (List.mem_of_mem_take h)) t ht
    · rcases List.mem_append.1 ht with ht | ht
      · exact ih (n - splitS n) (by omega) _ (by rw [List.length_drop]; omega) (fun k h => hk k (List.mem_of_mem_drop h)) t ht
      · rw [List.mem_singleton.1 ht]
        simp [nodeT, rootS_length]

end Go.Proofs.YtinpiodfpnbllaaGreatDoor

/- The leaf of an entry: the reference's. -/
namespace Go.Proofs.YtinpiodfpnbllaaGreatDoor
open Go.RowKit
set_option linter.unusedVariables false
set_option linter.unusedSimpArgs false

section
variable {md : Region.Mode} {ops : Array Oper} {Q : Exit → Act → World → Prop} {S : World → Prop} {fuel : Nat} {listed : Array Bool} {a : Act} {w : World}
/-- append to bytes that the call owns, the only operation that may come up. -/
theorem hd_appendB (i : Nat) {oi : Oper} (s x : Operand) (hi : ops[i]? = some oi) (ho : oi.op = .call { callee := .builtin .append, args := #[s, x], argTypes := #[22, 22] }) (hg : oi.guard = none) (hr : Region.ready md ops listed = [i])
    (B : Nat) (A : Option Addr) (n c : Nat) (l : List UInt8) (hn : l.length = n) (hs : a.eval s = .slice A n c) (hown : OB B w A c l)
    (X : Option Addr) (m d : Nat) (news : List UInt8) (hm : news.length = m) (hx : a.eval x = .slice X m d) (hsrc : Src w 1 X m (cellsB news)) (hlen : n + m ≤ 140737488351232) (hB : B ≤ w.heap.size)
    (h : ∀ A' c' w', OB B w' A' c' (l ++ news) → Below B w w' → S w' ∧ wpAnyH Tryz.prog md ops Q S fuel (listed.setIfInBounds i true) (a.put oi.dst (.slice A' (n + m) c')) w') : wpAnyH Tryz.prog md ops Q S (fuel + 1) listed a w := by
  obtain ⟨i0, hi0, hz0, hz1, hz2⟩ := info_parts u8_info'
  subst hn hm
  obtain ⟨A', c', w', hrun, h2, h3, h4⟩ := run_append_src (P := Tryz.prog) w B 22 oi.type 5 i0 (.int .u8 0) 1 1 Tryz.underlying22 hi0 hz0 hz1 hz2 rfl (by omega) A l.length c (cellsB l) hown X news.length d (cellsB news) hsrc (cellsB_one _) (by simp only [maxLen]; omega) (by omega) hB
  refine hd_one i hi hg hr ?_
  refine Lib.wp_append_run w s x 22 22 ho _ _ hs hx _ w' hrun ?_
  refine h A' c' w' ?_ (grown_below (Below.refl _ _) hown h3 hB (Nat.le_refl _))
  unfold OB
  rw [cellsB_append, List.length_append]
  exact h2
end

theorem by8_nat (m : Nat) (hm : m < 18446744073709551616) : by8 (UInt64.ofNat m) = be8 m := by
  have hn : (UInt64.ofNat m).toNat = m := by rw [UInt64.toNat_ofNat']; omega
  have hb : ∀ k, k < 64 → (UInt64.ofNat m >>> UInt64.ofNat k).toUInt8 = UInt8.ofNat (m / 2 ^ k) := fun k hk => by
    apply UInt8.toNat_inj.1
    rw [UInt64.toNat_toUInt8, toNat_shr _ _ hk, hn, UInt8.toNat_ofNat']
  have e0 : (UInt64.ofNat m).toUInt8 = UInt8.ofNat m := by
    apply UInt8.toNat_inj.1
    rw [UInt64.toNat_toUInt8, hn, UInt8.toNat_ofNat']
  have h8 := hb 8 (by omega)
  have h16 := hb 16 (by omega)
  have h24 := hb 24 (by omega)
  have h32 := hb 32 (by omega)
  have h40 := hb 40 (by omega)
  have h48 := hb 48 (by omega)
  have h56 := hb 56 (by omega)
  unfold by8 be8
  rw [← h8.trans rfl, ← h16.trans rfl, ← h24.trans rfl, ← h32.trans rfl, ← h40.trans rfl, ← h48.trans rfl, ← h56.trans rfl, ← e0]
  rfl
theorem be8_low {p : Nat} (h : p ≤ 65) : be8 p = [0, 0, 0, 0, 0, 0, 0, UInt8.ofNat p] := by
  unfold be8
  rw [show p / 72057594037927936 = 0 from by omega, show p / 281474976710656 = 0 from by omega, show p / 1099511627776 = 0 from by omega, show p / 4294967296 = 0 from by omega, show p / 16777216 = 0 from by omega, show p / 65536 = 0 from by omega, show p / 256 = 0 from by omega]
  rfl

end Go.Proofs.YtinpiodfpnbllaaGreatDoor

/- The leaves of a list of entries: the reference's. -/
namespace Go.Proofs.YtinpiodfpnbllaaGreatDoor
open Go.RowKit
set_option linter.unusedVariables false
set_option linter.unusedSimpArgs false

theorem wpList_build_key {ops : Array Oper} {rest : List Oper} {o : Oper} {a : Act} {w : World} {Q : Exit → Act → World → Prop} (hgd : o.guard = none) (x : Operand) (ho : o.op = .buildSlice 25 1 #[(0, x)]) (k : List UInt8) (hk : k.length = 16) (hx : a.eval x = .agg (cellsB k).toArray)
    (h : wpList Tryz.prog ops Q rest (a.put o.dst (.slice (some ⟨w.heap.size, 0, none⟩) 1 1)) (w.alloc (.cells (cellsB k).toArray 24))) : wpList Tryz.prog ops Q (o :: rest) a w :=
  wpList_plain hgd fun K hK => by
    unfold Oper.wp execOp
    rw [ho]
    simp only [List.map_toArray, List.map_cons, List.map_nil, hx, Sem.run_bind, run_build_key w k hk, Result.andThen_ok]
    exact hK _ _ h
theorem OE.kept {B : Nat} {w w' : World} {A X : Option Addr} {c x : Nat} {es : List Ent} {ks : List (List UInt8)} (h : OE B w A c es) (ho : OK16 B w X x ks) (hg : w.grownBy w' (Value.ownBlock (.slice X ks.length x))) : OE B w' A c es := own_kept h ho (by decide) hg

end Go.Proofs.YtinpiodfpnbllaaGreatDoor

/- A list of entries with one at each end, and its leaves: the program's. -/
namespace Go.Proofs.YtinpiodfpnbllaaGreatDoor
open Go.RowKit
set_option linter.unusedVariables false
set_option linter.unusedSimpArgs false

theorem Blk.ern {w : World} {g : Nat} {l : List Ent} (h : Blk w g 98 (cellsE l).toArray) {n : Nat} (hn : l.length = n) (hs : n ≤ 1000000) : ER w (some ⟨g, 0, none⟩) n l := by
  subst hn
  refine ⟨⟨cellsE_length l, Nat.le_refl _, by omega, by omega⟩, fun _ => ⟨g, 0, rfl, h.lt, fun j v hv => ?_⟩⟩
  rw [Nat.zero_add, h.cell j]
  simpa using hv

set_option maxHeartbeats 4000000 in
set_option maxRecDepth 100000 in
theorem ended_any (es : List Ent) (hv : ∀ x ∈ es, isE x = true) (A : Option Addr) (c : Nat) (w : World) {n : Nat} (hn : es.length = n) (h : ER w A c es) (hs : n ≤ 1000) :
    Calls Tryz.prog 115 #[.slice A n c] w fun e w' => (∃ X x Y y, e = .returned (.tuple #[.slice X (n + 2) x, .slice Y (n + 2) y]) ∧ OE w.heap.size w' X x (endedE es) ∧ OK16 w.heap.size w' Y y (leavesE es)) ∧ Below w.heap.size w w' := by
  have HN := Lib.hid hn
  have HE := Lib.hid (endedE_isE hv)
  have HEL : Hid ((endedE es).length = n + 2) := by unfold Hid; rw [endedE_length, hn]
  have HLL : Hid ((leavesE es).length = n + 2) := by unfold Hid; rw [leavesE_length, hn]
  have b0 := alloc3_bel w (.cells #[.int .i64 (-1), .int .i64 0] 98) (.cells #[.int .i64 64, .int .i64 0] 98) (.cells #[.slice (some ⟨w.heap.size, 0, none⟩) 1 1, .slice A n c, .slice (some ⟨w.heap.size + 1, 0, none⟩) 1 1] 56)
  have HC : Hid (Calls Tryz.prog 81 #[.slice (some ⟨w.heap.size + 1 + 1, 0, none⟩) 3 3] (((w.alloc (.cells #[.int .i64 (-1), .int .i64 0] 98)).alloc (.cells #[.int .i64 64, .int .i64 0] 98)).alloc (.cells #[.slice (some ⟨w.heap.size, 0, none⟩) 1 1, .slice A n c, .slice (some ⟨w.heap.size + 1, 0, none⟩) 1 1] 56)) fun e w' => ∃ X x, e = .returned (.slice X (n + 2) x) ∧ OE w.heap.size w' X x (endedE es) ∧ Below w.heap.size w w') := by
    obtain ⟨rs, hrs⟩ : ∃ rs : List ERow, rs = [⟨some ⟨w.heap.size, 0, none⟩, 1, [(-1, 0)]⟩, ⟨A, c, es⟩, ⟨some ⟨w.heap.size + 1, 0, none⟩, 1, [(64, 0)]⟩] := ⟨_, rfl⟩
    have hrl : rs.length = 3 := by rw [hrs]; rfl
    have hcat : catE rs 3 = endedE es := by rw [hrs]; simp [catE, endedE]
    have hcells : (rs.map ERow.v).toArray = #[.slice (some ⟨w.heap.size, 0, none⟩) 1 1, .slice A n c, .slice (some ⟨w.heap.size + 1, 0, none⟩) 1 1] := by rw [hrs]; simp [ERow.v, hn]
    have B0 := blk_a0 w #[.int .i64 (-1), .int .i64 0] 98 (.cells #[.int .i64 64, .int .i64 0] 98) (.cells #[.slice (some ⟨w.heap.size, 0, none⟩) 1 1, .slice A n c, .slice (some ⟨w.heap.size + 1, 0, none⟩) 1 1] 56)
    have B1 := blk_a1 w (.cells #[.int .i64 (-1), .int .i64 0] 98) #[.int .i64 64, .int .i64 0] 98 (.cells #[.slice (some ⟨w.heap.size, 0, none⟩) 1 1, .slice A n c, .slice (some ⟨w.heap.size + 1, 0, none⟩) 1 1] 56)
    have B2 := blk_a2 w (.cells #[.int .i64 (-1), .int .i64 0] 98) (.cells #[.int .i64 64, .int .i64 0] 98) #[.slice (some ⟨w.heap.size, 0, none⟩) 1 1, .slice A n c, .slice (some ⟨w.heap.size + 1, 0, none⟩) 1 1] 56
    have hE := h.below b0
    have b0' := b0
    generalize ((w.alloc (.cells #[.int .i64 (-1), .int .i64 0] 98)).alloc (.cells #[.int .i64 64, .int .i64 0] 98)).alloc (.cells #[.slice (some ⟨w.heap.size, 0, none⟩) 1 1, .slice A n c, .slice (some ⟨w.heap.size + 1, 0, none⟩) 1 1] 56) = W at B0 B1 B2 hE b0' ⊢
    rw [← hcells] at B2
    have hRE : RE W (some ⟨w.heap.size + 1 + 1, 0, none⟩) 3 rs := by
      refine ⟨⟨⟨by rw [List.length_map, Nat.mul_one], by omega, by omega, by omega⟩, fun _ => ⟨w.heap.size + 1 + 1, 0, rfl, B2.lt, fun j v hv => ?_⟩⟩, fun r hr => ?_⟩
      · rw [Nat.zero_add, B2.cell j]
        simpa using hv
      · rw [hrs] at hr
        simp only [List.mem_cons, List.not_mem_nil, or_false] at hr
        rcases hr with rfl | rfl | rfl
        · exact Blk.ern (l := [(-1, 0)]) B0 (n := 1) rfl (by omega)
        · exact hE
        · exact Blk.ern (l := [(64, 0)]) B1 (n := 1) rfl (by omega)
    refine (ConcatE_any _ 3 rs W hrl hRE (N := n + 2) (by rw [hcat, endedE_length, hn]) (by omega) (by omega)).mono ?_
    rintro e w5 ⟨⟨A5, c5, rfl, ho5⟩, hb5⟩
    rw [hcat] at ho5
    exact ⟨A5, c5, rfl, ho5.le_ b0'.size, bel_on b0' hb5⟩
  have HST : Hid (∀ i (hi : i < (endedE es).length), (leavesE es).take (i + 1) = (leavesE es).take i ++ [leafE (endedE es)[i]]) := fun i hi => leavesE_step hi
  generalize endedE es = ds at *
  generalize leavesE es = ls at *
  clear hn h hv b0
  have hnb : (n : Int) ≤ 1000 := by omega
  go_enter Tryz.func115, Tryz.ntmps115
  go_wp2_with (go_at_call 81; refine HC.out.mono ?_; rintro e w1 ⟨X, x, rfl, ho1, b1⟩)
  have E1 := Lib.hid ho1
  clear ho1
  go_loopw [5, 17] (fun vo vi wr => ∃ (i : Nat) (A' : Option Addr) (c' : Nat), i ≤ n + 2 ∧ vi = .int .i64 (i : Int) ∧ vo = .slice A' i c' ∧ Hid (OK16 w.heap.size wr A' c' (ls.take i)) ∧ Hid (OE w.heap.size wr X x ds) ∧ Below w.heap.size w wr) (fun _ vi _ => n + 2 - (intOf vi).toNat)
  case atStart => exact ⟨0, none, 0, by omega, rfl, rfl, OK16.nil _ _, E1, b1⟩
  case round =>
    obtain ⟨i, A', c', hi, rfl, rfl, HO, HR, hbel⟩ := hrel
    by_cases hlt : i < n + 2
    · have hii : (i : Int) < (n : Int) + 2 := by omega
      have hil : i < ds.length := by have := HEL.out; omega
      obtain ⟨b, off, rfl, hb, hc0, hc1⟩ := (HR.out.er (by rw [HEL.out]; omega)).at_ hil
      have HTK := Lib.hid (HST.out i hil)
      have HX := Lib.hid (HE.out _ (List.getElem_mem hil))
      obtain ⟨y, hy⟩ : ∃ y, ds[i] = y := ⟨_, rfl⟩
      rw [hy] at hc0 hc1 HTK HX
      obtain ⟨r, u⟩ := y
      have HTL : Hid ((ls.take i).length = i) := by unfold Hid; rw [List.length_take, HLL.out]; omega
      have HLF : Hid ((leafE (r, u)).length = 16) := leafE_length _
      have HCL : Hid (∀ W, Calls Tryz.prog 117 #[.agg #[.int .i64 r, .int .i64 u]] W fun e w' => e = .returned (.agg (cellsB (leafE (r, u))).toArray) ∧ Below W.heap.size W w') := fun W => leaf_any r u W HX.out
      generalize leafE (r, u) = t at HTK HLF HCL
      simp only at hc0 hc1
      have ba := alloc_bel wr (.cells #[.int .i64 r, .int .i64 u] 98)
      have HB1 := Lib.hid (bel_on hbel ba)
      have HO1 := Lib.hid (HO.out.below ba)
      have HR1 := Lib.hid (HR.out.below ba)
      have HBA := Lib.hid ba
      clear hil hy HX ba
      go_wp2_with (first
        | (go_at_call 117; refine (HCL.out _).mono ?_; rintro e w2 ⟨rfl, hb2⟩; have B2 := bel_on HB1.out hb2; have O2 := Lib.hid ((HO1.out.below hb2).below (alloc_bel w2 (.cells (cellsB t).toArray 24))); have B3 := bel_on B2 (alloc_bel w2 (.cells (cellsB t).toArray 24)); have R2 := Lib.hid ((HR1.out.below hb2).below (alloc_bel w2 (.cells (cellsB t).toArray 24))); clear hb2)
        | (refine wpList_build_key rfl (.tmp 23) rfl t HLF.out rfl ?_)
        | (at_builtin; refine wpList_append_keysE _ rfl (.tmp 21) (.tmp 24) rfl w.heap.size A' i c' _ HTL.out rfl O2.out (some ⟨w2.heap.size, 0, none⟩) 1 1 [t] rfl rfl (src_key w2 HLF.out) (by omega) B3.size ?_; intro A3 c3 w3 ho3 hb3 hg3; have R3 := Lib.hid (OE.kept R2.out O2.out (by rw [HTL.out]; exact hg3)); clear hg3; have O3 := Lib.hid ho3; have B4 := B3.trans hb3; clear ho3))
      go_roundw
      case rel => exact ⟨i + 1, A3, c3, by omega, by go_num, rfl, by rw [HTK.out]; exact O3.out, R3.out, B4⟩
      case measure => simp [intOf]; omega
    · obtain rfl : i = n + 2 := by omega
      go_wp2_with fail
      go_ret2
      refine ⟨⟨X, x, A', c', rfl, HR.out, ?_⟩, hbel⟩
      have := HO.out
      rwa [List.take_of_length_le (by rw [HLL.out]; omega)] at this
end Go.Proofs.YtinpiodfpnbllaaGreatDoor

/- Merge, Prune, ListRoot and Leaf: the program's. -/
namespace Go.Proofs.YtinpiodfpnbllaaGreatDoor
open Go.RowKit
set_option linter.unusedVariables false
set_option linter.unusedSimpArgs false

/-- A merged list, and the error. -/
def mgS (a b : List Ent) : List Ent × Int := if validL a = false ∨ validL b = false then ([], 90) else (mergeS a b, 0)
def LsEnd (B : Nat) (v : List Ent × Int) (e : Ending) (w' : World) : Prop := ∃ X x, e = .returned (.tuple #[.slice X v.1.length x, .int .i64 v.2]) ∧ OE B w' X x v.1
theorem mergeS_le (a b : List Ent) : (mergeS a b).length ≤ 64 := by unfold mergeS; exact Nat.le_trans (List.length_filterMap_le _ _) (by simp)

set_option maxHeartbeats 4000000 in
set_option maxRecDepth 100000 in
theorem merge_bad (a b : List Ent) (A X : Option Addr) (c d : Nat) (w : World) {n m : Nat} (hn : a.length = n) (hm : b.length = m) (h : ER w A c a) (h' : ER w X d b) (hv : validL a = false ∨ validL b = false) :
    Calls Tryz.prog 29 #[.slice A n c, .slice X m d] w fun e w' => LsEnd w.heap.size (mgS a b) e w' ∧ Below w.heap.size w w' := by
  have HS : Hid (mgS a b = ([], 90)) := by unfold Hid mgS; rw [if_pos hv]
  have HA : Hid (∀ W, Below w.heap.size w W → Calls Tryz.prog 30 #[.slice A n c] W fun e w' => e = .returned (.int .i64 (ckL (validL a))) ∧ Below W.heap.size W w') := fun W hW => checkList_any a A c W hn (h.below hW)
  have HB : Hid (∀ W, Below w.heap.size w W → Calls Tryz.prog 30 #[.slice X m d] W fun e w' => e = .returned (.int .i64 (ckL (validL b))) ∧ Below W.heap.size W w') := fun W hW => checkList_any b X d W hm (h'.below hW)
  have b0 := Below.refl w.heap.size w
  clear hn hm h h'
  cases ha : validL a with
  | false =>
    rw [ha] at HA
    change Hid (∀ W, Below w.heap.size w W → Calls Tryz.prog 30 #[.slice A n c] W fun e w' => e = .returned (.int .i64 90) ∧ Below W.heap.size W w') at HA
    clear hv ha
    go_enter Tryz.func29, Tryz.ntmps29
    go_wp2_with (go_at_call 30; refine (HA.out _ b0).mono ?_; rintro e w1 ⟨rfl, hb1⟩)
    go_ret2
    unfold LsEnd
    rw [HS.out]
    exact ⟨⟨none, 0, rfl, World.ownsRow_nil _ _ _ _⟩, hb1⟩
  | true =>
    have hb : validL b = false := by
      rcases hv with h | h
      · rw [h] at ha; cases ha
      · exact h
    rw [ha] at HA
    rw [hb] at HB
    change Hid (∀ W, Below w.heap.size w W → Calls Tryz.prog 30 #[.slice A n c] W fun e w' => e = .returned (.int .i64 0) ∧ Below W.heap.size W w') at HA
    change Hid (∀ W, Below w.heap.size w W → Calls Tryz.prog 30 #[.slice X m d] W fun e w' => e = .returned (.int .i64 90) ∧ Below W.heap.size W w') at HB
    have tok : True := trivial
    clear hv ha hb
    go_enter Tryz.func29, Tryz.ntmps29
    go_wp2_with (first | (go_at_call 30; have _t := tok; refine (HA.out _ b0).mono ?_; rintro e w1 ⟨rfl, hb1⟩; clear tok) | (go_at_call 30; refine (HB.out _ hb1).mono ?_; rintro e w2 ⟨rfl, hb2⟩; have D2 := bel_on hb1 hb2; clear hb2))
    go_ret2
    unfold LsEnd
    rw [HS.out]
    exact ⟨⟨none, 0, rfl, World.ownsRow_nil _ _ _ _⟩, D2⟩

set_option maxHeartbeats 4000000 in
set_option maxRecDepth 100000 in
theorem merge_good (a b : List Ent) (A X : Option Addr) (c d : Nat) (w : World) {n m : Nat} (hn : a.length = n) (hm : b.length = m) (h : ER w A c a) (h' : ER w X d b) (ha : validL a = true) (hb : validL b = true) :
    Calls Tryz.prog 29 #[.slice A n c, .slice X m d] w fun e w' => LsEnd w.heap.size (mgS a b) e w' ∧ Below w.heap.size w w' := by
  have hla := validL_length ha
  have hlb := validL_length hb
  have HS : Hid (mgS a b = (compE (sortE (a ++ b)), 0)) := by
    unfold Hid mgS
    rw [if_neg (by rw [ha, hb]; simp), compE_merge ha hb (fun x => by rw [sortE_mem, List.mem_append]) (sortE_sorted _)]
  have HA : Hid (∀ W, Below w.heap.size w W → Calls Tryz.prog 30 #[.slice A n c] W fun e w' => e = .returned (.int .i64 0) ∧ Below W.heap.size W w') := fun W hW => by
    have := checkList_any a A c W hn (h.below hW)
    rw [ha] at this
    exact this
  have HB : Hid (∀ W, Below w.heap.size w W → Calls Tryz.prog 30 #[.slice X m d] W fun e w' => e = .returned (.int .i64 0) ∧ Below W.heap.size W w') := fun W hW => by
    have := checkList_any b X d W hm (h'.below hW)
    rw [hb] at this
    exact this
  have HC : Hid (∀ W, Below w.heap.size w W → Calls Tryz.prog 81 #[.slice (some ⟨W.heap.size, 0, none⟩) 2 2] (W.alloc (.cells #[.slice A n c, .slice X m d] 56)) fun e w' => (∃ Y y, e = .returned (.slice Y (n + m) y) ∧ OE w.heap.size w' Y y (a ++ b)) ∧ Below w.heap.size w w') := fun W hW => by
    have hA := (h.below hW).below (alloc_bel W (.cells #[.slice A n c, .slice X m d] 56))
    have hX := (h'.below hW).below (alloc_bel W (.cells #[.slice A n c, .slice X m d] 56))
    have N0 := Blk.new W 56 #[.slice A n c, .slice X m d]
    have hW2 := bel_on hW (alloc_bel W (.cells #[.slice A n c, .slice X m d] 56))
    obtain ⟨rs, hrs⟩ : ∃ rs : List ERow, rs = [⟨A, c, a⟩, ⟨X, d, b⟩] := ⟨_, rfl⟩
    have hrl : rs.length = 2 := by rw [hrs]; rfl
    have hcat : catE rs 2 = a ++ b := by rw [hrs]; simp [catE]
    have hcells : (rs.map ERow.v).toArray = #[.slice A n c, .slice X m d] := by rw [hrs]; simp [ERow.v, hn, hm]
    rw [← hcells] at N0 hA hX hW2 ⊢
    have hRE : RE (W.alloc (.cells (rs.map ERow.v).toArray 56)) (some ⟨W.heap.size, 0, none⟩) 2 rs := by
      refine ⟨⟨⟨by rw [List.length_map, Nat.mul_one], by omega, by omega, by omega⟩, fun _ => ⟨W.heap.size, 0, rfl, N0.lt, fun j v hv => ?_⟩⟩, fun r hr => ?_⟩
      · rw [Nat.zero_add, N0.cell j]
        simpa using hv
      · rw [hrs] at hr
        simp only [List.mem_cons, List.not_mem_nil, or_false] at hr
        rcases hr with rfl | rfl
        · exact hA
        · exact hX
    refine (ConcatE_all _ 2 rs _ hrl hRE (N := n + m) (by rw [hcat, List.length_append, hn, hm]) (by omega)).mono ?_
    rintro e w5 ⟨⟨A5, c5, rfl, ho5⟩, hb5⟩
    rw [hcat] at ho5
    exact ⟨⟨A5, c5, rfl, ho5.le_ hW2.size⟩, bel_on hW2 hb5⟩
  have HSO : Hid (∀ (Y : Option Addr) (y : Nat) W, OE w.heap.size W Y y (a ++ b) → Below w.heap.size w W → Calls Tryz.prog 82 #[.slice Y (n + m) y, .func (.func 83) #[] #[]] W fun e w' => e = .returned (.tuple #[]) ∧ OE w.heap.size w' Y y (sortE (a ++ b)) ∧ Below w.heap.size W w') := fun Y y W ho hW => sortO_any Y y (a ++ b) W (by rw [List.length_append, hn, hm]) ho hW.size (by omega)
  have HCO : Hid (∀ (Y : Option Addr) (y : Nat) W, OE w.heap.size W Y y (sortE (a ++ b)) → Below w.heap.size w W → Calls Tryz.prog 86 #[.slice Y (n + m) y, .func (.func 87) #[] #[]] W fun e w' => e = .returned (.slice Y (compE (sortE (a ++ b))).length y) ∧ OE w.heap.size w' Y y (compE (sortE (a ++ b))) ∧ Below w.heap.size W w') := fun Y y W ho hW => compactO_any Y y (sortE (a ++ b)) W (by rw [sortE_length, List.length_append, hn, hm]) ho hW.size (by omega)
  have b0 := Below.refl w.heap.size w
  have tok : True := trivial
  generalize sortE (a ++ b) = s at *
  generalize hk : (compE s).length = k at HCO
  have HK := Lib.hid hk
  clear hn hm h h' ha hb hla hlb hk
  go_enter Tryz.func29, Tryz.ntmps29
  go_wp2_with (first
    | (go_at_call 30; have _t := tok; refine (HA.out _ b0).mono ?_; rintro e w1 ⟨rfl, hb1⟩; clear tok)
    | (go_at_call 30; refine (HB.out _ hb1).mono ?_; rintro e w2 ⟨rfl, hb2⟩; have D2 := bel_on hb1 hb2; clear hb2)
    | (go_at_call 81; (with_reducible refine (HC.out _ D2).mono ?_); rintro e w3 ⟨⟨Y, y, rfl, ho3⟩, D3⟩; have O3 := Lib.hid ho3; clear ho3)
    | (go_at_call 82; (with_reducible refine (HSO.out _ _ _ O3.out D3).mono ?_); rintro e w4 ⟨rfl, ho4, hb4⟩; have O4 := Lib.hid ho4; have D4 := D3.trans hb4; clear ho4 hb4)
    | (go_at_call 86; (with_reducible refine (HCO.out _ _ _ O4.out D4).mono ?_); rintro e w5 ⟨rfl, ho5, hb5⟩; have O5 := Lib.hid ho5; have D5 := D4.trans hb5; clear ho5 hb5))
  go_ret2
  unfold LsEnd
  rw [HS.out]
  exact ⟨⟨Y, y, by rw [HK.out]; rfl, O5.out⟩, D5⟩
theorem Merge_any (a b : List Ent) (A X : Option Addr) (c d : Nat) (w : World) {n m : Nat} (hn : a.length = n) (hm : b.length = m) (h : ER w A c a) (h' : ER w X d b) :
    Calls Tryz.prog 29 #[.slice A n c, .slice X m d] w fun e w' => LsEnd w.heap.size (mgS a b) e w' ∧ Below w.heap.size w w' := by
  by_cases hv : validL a = false ∨ validL b = false
  · exact merge_bad a b A X c d w hn hm h h' hv
  · rw [not_or, Bool.not_eq_false, Bool.not_eq_false] at hv
    exact merge_good a b A X c d w hn hm h h' hv.1 hv.2

/-- A pruned list, and the error. -/
def prS (l : List Ent) (z : Int) : List Ent × Int := if validL l = false then ([], 90) else if z < 0 ∨ 1099511627776 < z then ([], 2) else (pruneS l z, 0)
set_option maxHeartbeats 4000000 in
set_option maxRecDepth 100000 in
theorem prune_bad (l : List Ent) (z : Int) (A : Option Addr) (c : Nat) (w : World) {n : Nat} (hn : l.length = n) (h : ER w A c l) (hv : validL l = false) :
    Calls Tryz.prog 42 #[.slice A n c, .int .i64 z] w fun e w' => LsEnd w.heap.size (prS l z) e w' ∧ Below w.heap.size w w' := by
  have HS : Hid (prS l z = ([], 90)) := by unfold Hid prS; rw [if_pos hv]
  have HA : Hid (∀ W, Below w.heap.size w W → Calls Tryz.prog 30 #[.slice A n c] W fun e w' => e = .returned (.int .i64 90) ∧ Below W.heap.size W w') := fun W hW => by
    have := checkList_any l A c W hn (h.below hW)
    rw [hv] at this
    exact this
  have b0 := alloc_bel w (.cells #[.int .i64 z] 3)
  clear hn h hv
  go_enter Tryz.func42, Tryz.ntmps42
  go_wp2_with (go_at_call 30; refine (HA.out _ b0).mono ?_; rintro e w1 ⟨rfl, hb1⟩; have D1 := bel_on b0 hb1; clear hb1)
  go_ret2
  unfold LsEnd
  rw [HS.out]
  exact ⟨⟨none, 0, rfl, World.ownsRow_nil _ _ _ _⟩, D1⟩
set_option maxHeartbeats 4000000 in
set_option maxRecDepth 100000 in
theorem prune_out (l : List Ent) (z : Int) (A : Option Addr) (c : Nat) (w : World) {n : Nat} (hn : l.length = n) (h : ER w A c l) (hv : validL l = true) (hz : z < 0 ∨ 1099511627776 < z) :
    Calls Tryz.prog 42 #[.slice A n c, .int .i64 z] w fun e w' => LsEnd w.heap.size (prS l z) e w' ∧ Below w.heap.size w w' := by
  have HS : Hid (prS l z = ([], 2)) := by unfold Hid prS; rw [if_neg (by rw [hv]; simp), if_pos hz]
  have HA : Hid (∀ W, Below w.heap.size w W → Calls Tryz.prog 30 #[.slice A n c] W fun e w' => e = .returned (.int .i64 0) ∧ Below W.heap.size W w') := fun W hW => by
    have := checkList_any l A c W hn (h.below hW)
    rw [hv] at this
    exact this
  have b0 := alloc_bel w (.cells #[.int .i64 z] 3)
  have N0 := Lib.hid (Blk.new w 3 #[.int .i64 z])
  clear hn h hv
  rcases hz with hz | hz
  · go_enter Tryz.func42, Tryz.ntmps42
    go_wp2_with (go_at_call 30; refine (HA.out _ b0).mono ?_; rintro e w1 ⟨rfl, hb1⟩; have k0 : w1.cell? ⟨w.heap.size, 0, none⟩ = some (.int .i64 z) := (N0.out.below' hb1).cell 0; have D1 := bel_on b0 hb1; clear hb1)
    go_ret2
    unfold LsEnd
    rw [HS.out]
    exact ⟨⟨none, 0, rfl, World.ownsRow_nil _ _ _ _⟩, D1⟩
  · have s0 : decide (z < 0) = false := decide_eq_false (by omega)
    go_enter Tryz.func42, Tryz.ntmps42
    go_wp2_with (go_at_call 30; refine (HA.out _ b0).mono ?_; rintro e w1 ⟨rfl, hb1⟩; have k0 : w1.cell? ⟨w.heap.size, 0, none⟩ = some (.int .i64 z) := (N0.out.below' hb1).cell 0; have D1 := bel_on b0 hb1; clear hb1)
    go_ret2
    unfold LsEnd
    rw [HS.out]
    exact ⟨⟨none, 0, rfl, World.ownsRow_nil _ _ _ _⟩, D1⟩
set_option maxHeartbeats 4000000 in
set_option maxRecDepth 100000 in
theorem prune_good (l : List Ent) (z : Int) (A : Option Addr) (c : Nat) (w : World) {n : Nat} (hn : l.length = n) (h : ER w A c l) (hv : validL l = true) (h0 : 0 ≤ z) (h1 : z ≤ 1099511627776) :
    Calls Tryz.prog 42 #[.slice A n c, .int .i64 z] w fun e w' => LsEnd w.heap.size (prS l z) e w' ∧ Below w.heap.size w w' := by
  have hl := validL_length hv
  have HS : Hid (prS l z = (pruneS l z, 0)) := by unfold Hid prS; rw [if_neg (by rw [hv]; simp), if_neg (by omega)]
  have HA : Hid (∀ W, Below w.heap.size w W → Calls Tryz.prog 30 #[.slice A n c] W fun e w' => e = .returned (.int .i64 0) ∧ Below W.heap.size W w') := fun W hW => by
    have := checkList_any l A c W hn (h.below hW)
    rw [hv] at this
    exact this
  have b0 := alloc_bel w (.cells #[.int .i64 z] 3)
  have N0 := Lib.hid (Blk.new w 3 #[.int .i64 z])
  have HC : Hid (∀ W, Below w.heap.size w W → Calls Tryz.prog 101 #[.slice A n c] W fun e w' => (∃ A' c', e = .returned (.slice A' n c') ∧ OE W.heap.size w' A' c' l) ∧ Below W.heap.size W w') := fun W hW => cloneE_any A c l W hn (h.below hW) (by omega)
  have HD : Hid (∀ B Y y W, OE B W Y y l → B ≤ W.heap.size → W.cell? ⟨w.heap.size, 0, none⟩ = some (.int .i64 z) → w.heap.size < B → Calls Tryz.prog 100 #[.slice Y n y, .func (.func 102) #[] #[.pointer (some ⟨w.heap.size, 0, none⟩)]] W fun e w' => e = .returned (.slice Y (pruneS l z).length y) ∧ OE B w' Y y (pruneS l z) ∧ Below B W w') := fun B Y y W ho hB hp hpB => deleteO_any Y y l z ⟨w.heap.size, 0, none⟩ W hn ho hB hp hpB (by omega)
  have s0 : decide (z < 0) = false := decide_eq_false (by omega)
  have s1 : decide (1099511627776 < z) = false := decide_eq_false (by omega)
  generalize hk : (pruneS l z).length = k at HD
  have HK := Lib.hid hk
  clear hn h hv hl hk h0 h1
  go_enter Tryz.func42, Tryz.ntmps42
  go_wp2_with (first
    | (go_at_call 30; refine (HA.out _ b0).mono ?_; rintro e w1 ⟨rfl, hb1⟩; have k0 : w1.cell? ⟨w.heap.size, 0, none⟩ = some (.int .i64 z) := (N0.out.below' hb1).cell 0; have N1 := Lib.hid (N0.out.below' hb1); have D1 := bel_on b0 hb1; clear hb1)
    | (go_at_call 101; refine (HC.out _ D1).mono ?_; rintro e w2 ⟨⟨Y, y, rfl, ho2⟩, hb2⟩; have O2 := Lib.hid ho2; have k1 := Lib.hid (show w2.cell? ⟨w.heap.size, 0, none⟩ = some (.int .i64 z) from (N1.out.below' hb2).cell 0); have HZ2 := Lib.hid hb2.size; have D2 := Lib.hid (bel_on D1 hb2); have HLT := Lib.hid N1.out.lt; clear ho2 hb2 k0)
    | (go_at_call 100; (with_reducible refine (HD.out _ _ _ _ O2.out HZ2.out k1.out HLT.out).mono ?_); rintro e w3 ⟨rfl, ho3, hb3⟩; have O3 := Lib.hid (ho3.le_ D1.size); have D3 := Lib.hid (D2.out.trans (hb3.mono D1.size)); clear ho3 hb3))
  go_ret2
  unfold LsEnd
  rw [HS.out]
  exact ⟨⟨Y, y, by rw [HK.out]; rfl, O3.out⟩, D3.out⟩
theorem Prune_any (l : List Ent) (z : Int) (A : Option Addr) (c : Nat) (w : World) {n : Nat} (hn : l.length = n) (h : ER w A c l) :
    Calls Tryz.prog 42 #[.slice A n c, .int .i64 z] w fun e w' => LsEnd w.heap.size (prS l z) e w' ∧ Below w.heap.size w w' := by
  cases hv : validL l with
  | false => exact prune_bad l z A c w hn h hv
  | true =>
    by_cases hz : z < 0 ∨ 1099511627776 < z
    · exact prune_out l z A c w hn h hv hz
    · exact prune_good l z A c w hn h hv (by omega) (by omega)
end Go.Proofs.YtinpiodfpnbllaaGreatDoor

/- The examples' merged list. -/
namespace Go.Proofs.YtinpiodfpnbllaaGreatDoor
open Go.RowKit
set_option linter.unusedVariables false
set_option linter.unusedSimpArgs false

theorem merged_plain : mgS [(1, 5), (3, 2)] [(1, 4), (2, 9)] = ([(1, 5), (2, 9), (3, 2)], 0) := by decide +kernel
set_option maxHeartbeats 2000000 in
set_option maxRecDepth 100000 in
theorem merged_any (w : World) : Calls Tryz.prog 59 #[] w fun e w' => LsEnd w.heap.size ([(1, 5), (2, 9), (3, 2)], 0) e w' ∧ Below w.heap.size w w' := by
  have b0 := alloc2_bel w (.cells (cellsE [(1, 5), (3, 2)]).toArray 98) (.cells (cellsE [(1, 4), (2, 9)]).toArray 98)
  have E2 : Hid (Calls Tryz.prog 29 #[.slice (some ⟨w.heap.size, 0, none⟩) 2 2, .slice (some ⟨w.heap.size + 1, 0, none⟩) 2 2] ((w.alloc (.cells #[.int .i64 1, .int .i64 5, .int .i64 3, .int .i64 2] 98)).alloc (.cells #[.int .i64 1, .int .i64 4, .int .i64 2, .int .i64 9] 98)) fun e w' => LsEnd w.heap.size ([(1, 5), (2, 9), (3, 2)], 0) e w' ∧ Below w.heap.size w w') := by
    have b1 := alloc_bel (w.alloc (.cells (cellsE [(1, 5), (3, 2)]).toArray 98)) (.cells (cellsE [(1, 4), (2, 9)]).toArray 98)
    have O1 := (OE.lit w.heap.size w [(1, 5), (3, 2)] (Nat.le_refl _) (by simp) (n := 2) rfl).er (by simp)
    have O2 := (OE.lit (w.alloc (.cells (cellsE [(1, 5), (3, 2)]).toArray 98)).heap.size (w.alloc (.cells (cellsE [(1, 5), (3, 2)]).toArray 98)) [(1, 4), (2, 9)] (Nat.le_refl _) (by simp) (n := 2) rfl).er (by simp)
    rw [show (w.alloc (.cells (cellsE [(1, 5), (3, 2)]).toArray 98)).heap.size = w.heap.size + 1 from by simp] at O2
    have := Merge_any [(1, 5), (3, 2)] [(1, 4), (2, 9)] _ _ _ _ _ rfl rfl (O1.below b1) O2
    rw [merged_plain] at this
    exact this.mono fun e w' ⟨⟨X, x, he, h1⟩, h2⟩ => ⟨⟨X, x, he, World.ownsRow.mono h1 b0.size⟩, bel_on b0 h2⟩
  clear b0
  go_enter Tryz.func59, Tryz.ntmps59
  go_wp2_with fail
  refine (E2.out).mono ?_
  rintro e w1 ⟨⟨X, x, rfl, h1⟩, hb⟩
  have H1 := Lib.hid h1
  clear h1 E2
  go_wp2_with fail
  go_ret2
  exact ⟨⟨X, x, rfl, H1.out⟩, hb⟩
end Go.Proofs.YtinpiodfpnbllaaGreatDoor

/- What the frames of the laws share: a recording, a key among the arguments, opened. -/
namespace Go.Proofs.YtinpiodfpnbllaaGreatDoor
open Go.ChangeShapes Go.WideShapes Go.ChangeAt Go.RowKit Go.Deep
set_option linter.unusedVariables false

theorem cells_key : Tryz.prog.cellsOf 24 = 16 := by kernel_rfl
theorem cells_recording : Tryz.prog.cellsOf 86 = 33 := by kernel_rfl
theorem cells_bytes : Tryz.prog.cellsOf 22 = 1 := by kernel_rfl

theorem okWide_array {P : Program} {w : World} {r : Reach} {base : Nat} {t e : TypeId} {v : Value} {n : Nat} (ht : P.underlying t = some (.array n e)) (h : Value.okWide P w r base t v) : ∃ cs, v = .agg cs ∧ cs.size = P.cellsOf t := by
  simp only [Value.okWide, ht] at h
  obtain ⟨cs, h1, h2, _⟩ := h
  exact ⟨cs, h1, h2⟩
set_option maxRecDepth 100000 in
theorem open_key {H : Type} {enc : TypeId × Value → H} {W : World} {b0 : Nat} {v : Value} {d : DataW H} {ps : List MemPlace} (hval : Value.okWide Tryz.prog W .any b0 24 v) (hd : DataW.Trod enc Tryz.prog W 0 (fun _ => true) true 24 v d ps) :
    ∃ k : List UInt8, v = .agg (cellsB k).toArray ∧ k.length = 16 := by
  obtain ⟨cs, rfl, hsz⟩ := okWide_array Tryz.underlying24 hval
  obtain ⟨fuel, hf⟩ := hd
  obtain ⟨k, hk, e⟩ := key_of_trod hf
  refine ⟨k, ?_, hk⟩
  rw [← e]
  simp [Value.cells]

/-- A recording, among cells. -/
theorem recording_of_trod {H : Type} {enc : TypeId × Value → H} {W : World} {fuel : Nat} {cs : List Value} {x : DataW H × List MemPlace} (h : DataW.trod enc Tryz.prog W 0 (fun _ => true) true fuel 86 cs = some x)
    (hw : ∀ n ∈ x.1.weights Tryz.prog 86, n ≤ reachBytes) : ∃ b c A m l, cs = recC b c A (List.length l) m ∧ b.length = 16 ∧ c.length = 16 ∧ BR W A m l := by
  obtain ⟨y0, y1, y2, n, rfl, hl, h0, h1, h2⟩ := trod_struct3 Tryz.underlying86 h
  have hw' : ∀ n ∈ DataW.weightsEach Tryz.prog [24, 24, 22] [y0.1, y1.1, y2.1], n ≤ reachBytes := by simpa [DataW.weights, Tryz.underlying86] using hw
  dsimp only at h0 h1 h2
  rw [cells_key] at h0 h1
  rw [cells_bytes] at h2
  rw [cells_recording] at hl
  obtain ⟨b, hb, e0⟩ := key_of_trod h0
  obtain ⟨c, hc, e1⟩ := key_of_trod h1
  obtain ⟨A, m, l, e2, hB⟩ := bytes_of_trod Tryz.underlying22 h2 (fun m hm => hw' m (DataW.weights_mem_each (j := 2) rfl rfl m hm))
  refine ⟨b, c, A, m, l, ?_, hb, hc, hB⟩
  rw [recC, ← e0, ← e1, ← e2, List.drop_zero]
  rw [show List.take 16 (List.drop 16 cs) ++ List.take 1 (List.drop 32 cs) = List.drop 16 cs from by
    rw [List.take_of_length_le (show (List.drop 32 cs).length ≤ 1 by simp; omega), show List.drop 32 cs = List.drop 16 (List.drop 16 cs) from by rw [List.drop_drop], List.take_append_drop], List.take_append_drop]
set_option maxRecDepth 100000 in
theorem open_recording {H : Type} {enc : TypeId × Value → H} {W : World} {b0 : Nat} {v : Value} {d : DataW H} {ps : List MemPlace} (hval : Value.okWide Tryz.prog W .any b0 86 v) (hd : DataW.Trod enc Tryz.prog W 0 (fun _ => true) true 86 v d ps)
    (hw : ∀ n ∈ d.weights Tryz.prog 86, n ≤ reachBytes) : ∃ b c A m l, v = .agg (recC b c A (List.length l) m).toArray ∧ b.length = 16 ∧ c.length = 16 ∧ BR W A m l := by
  obtain ⟨cs, rfl, hsz⟩ := okWide_struct Tryz.underlying86 hval
  obtain ⟨fuel, hf⟩ := hd
  obtain ⟨b, c, A, m, l, e, h1, h2, h3⟩ := recording_of_trod hf hw
  refine ⟨b, c, A, m, l, ?_, h1, h2, h3⟩
  rw [← e]
  simp [Value.cells]
end Go.Proofs.YtinpiodfpnbllaaGreatDoor

/- Lists of keys among a law's arguments, opened. -/
namespace Go.Proofs.YtinpiodfpnbllaaGreatDoor
open Go.ChangeShapes Go.WideShapes Go.ChangeAt Go.RowKit Go.Deep
set_option linter.unusedVariables false

theorem bytes_key : Tryz.prog.bytesOf 24 = 16 := by kernel_rfl
theorem keys_of_trod {H : Type} {enc : TypeId × Value → H} {W : World} {fuel : Nat} {t : TypeId} {cs : List Value} {x : DataW H × List MemPlace} (ht : Tryz.prog.underlying t = some (.slice 24)) (h : DataW.trod enc Tryz.prog W 0 (fun _ => true) true fuel t cs = some x)
    (hw : ∀ n ∈ x.1.weights Tryz.prog t, n ≤ reachBytes) : ∃ A c ks, cs = [.slice A (List.length ks) c] ∧ KR W A c ks ∧ c * 16 ≤ 140737488351232 := by
  obtain ⟨A, len, cap, m, C, D, rfl, hle, hcap, hby, hcell, hel⟩ := slice_of_trod ht cells_key (by omega) bytes_key h hw
  obtain ⟨U, hU⟩ := choose_lt (α := List UInt8) (p := fun i k => k.length = 16 ∧ C i = cellsB k) (fun i hi => key_of_trod (hel i hi).2.1)
  have hrd := rd_of_cells (by_ := 16) hle hcap (by omega) (fun i hi => (hel i hi).1) hcell
  have hfl : (List.range len).flatMap C = cellsK ((List.range len).map U) := by
    unfold cellsK
    rw [List.flatMap_def, List.map_congr_left (g := fun i => cellsB (U i)) (fun i hi => (hU i (List.mem_range.1 hi)).2), ← List.flatMap_def]
    generalize List.range len = l
    induction l with
    | nil => rfl
    | cons a l ih => simp [ih]
  rw [hfl] at hrd
  refine ⟨A, cap, (List.range len).map U, by simp, ⟨by simpa using hrd, fun r hr => ?_⟩, hby⟩
  obtain ⟨i, hi, rfl⟩ := List.mem_map.1 hr
  exact (hU i (List.mem_range.1 hi)).1
set_option maxRecDepth 100000 in
theorem open_keys {H : Type} {enc : TypeId × Value → H} {W : World} {b0 : Nat} {v : Value} {d : DataW H} {ps : List MemPlace} (hval : Value.okWide Tryz.prog W .any b0 25 v) (hd : DataW.Trod enc Tryz.prog W 0 (fun _ => true) true 25 v d ps)
    (hw : ∀ n ∈ d.weights Tryz.prog 25, n ≤ reachBytes) : ∃ A c z, v = .slice A (List.length z) c ∧ KR W A c z ∧ c * 16 ≤ 140737488351232 := by
  obtain ⟨fuel, hf⟩ := hd
  obtain ⟨A, c, z, e, h, hc⟩ := keys_of_trod Tryz.underlying25 hf hw
  exact ⟨A, c, z, slice_val Tryz.underlying25 hval e, h, hc⟩
end Go.Proofs.YtinpiodfpnbllaaGreatDoor

/- Proofs and growths among a law's arguments, opened. -/
namespace Go.Proofs.YtinpiodfpnbllaaGreatDoor
open Go.ChangeShapes Go.WideShapes Go.ChangeAt Go.RowKit Go.Deep
set_option linter.unusedVariables false

theorem cells_keys : Tryz.prog.cellsOf 25 = 1 := by kernel_rfl
theorem cells_i64 : Tryz.prog.cellsOf 3 = 1 := by kernel_rfl
theorem proof_of_trod {H : Type} {enc : TypeId × Value → H} {W : World} {fuel : Nat} {cs : List Value} {x : DataW H × List MemPlace} (h : DataW.trod enc Tryz.prog W 0 (fun _ => true) true fuel 27 cs = some x)
    (hw : ∀ n ∈ x.1.weights Tryz.prog 27, n ≤ reachBytes) : ∃ a b A c P, cs = [.int .i64 a, .int .i64 b, .slice A (List.length P) c] ∧ KR W A c P := by
  obtain ⟨y0, y1, y2, n, rfl, hl, h0, h1, h2⟩ := trod_struct3 Tryz.underlying27 h
  have hw' : ∀ n ∈ DataW.weightsEach Tryz.prog [3, 3, 25] [y0.1, y1.1, y2.1], n ≤ reachBytes := by simpa [DataW.weights, Tryz.underlying27] using hw
  dsimp only at h0 h1 h2
  rw [cells_i64] at h0 h1
  rw [cells_keys] at h2
  rw [show Tryz.prog.cellsOf 27 = 3 from by kernel_rfl] at hl
  obtain ⟨a, e0, _⟩ := int_of_trod h0
  obtain ⟨b, e1, _⟩ := int_of_trod h1
  obtain ⟨A, c, P, e2, hk, _⟩ := keys_of_trod Tryz.underlying25 h2 (fun m hm => hw' m (DataW.weights_mem_each (j := 2) rfl rfl m hm))
  refine ⟨a, b, A, c, P, ?_, hk⟩
  match cs, hl with
  | [u, v, z], _ =>
    simp only [List.drop_zero, List.take_succ_cons, List.take_zero, List.drop_succ_cons, List.cons.injEq, and_true] at e0 e1 e2
    rw [e0, e1, e2]
theorem growth_of_trod {H : Type} {enc : TypeId × Value → H} {W : World} {fuel : Nat} {cs : List Value} {x : DataW H × List MemPlace} (h : DataW.trod enc Tryz.prog W 0 (fun _ => true) true fuel 80 cs = some x)
    (hw : ∀ n ∈ x.1.weights Tryz.prog 80, n ≤ reachBytes) : ∃ a b A c P, cs = [.int .i64 a, .int .i64 b, .slice A (List.length P) c] ∧ KR W A c P := by
  obtain ⟨y0, y1, y2, n, rfl, hl, h0, h1, h2⟩ := trod_struct3 Tryz.underlying80 h
  have hw' : ∀ n ∈ DataW.weightsEach Tryz.prog [3, 3, 25] [y0.1, y1.1, y2.1], n ≤ reachBytes := by simpa [DataW.weights, Tryz.underlying80] using hw
  dsimp only at h0 h1 h2
  rw [cells_i64] at h0 h1
  rw [cells_keys] at h2
  rw [show Tryz.prog.cellsOf 80 = 3 from by kernel_rfl] at hl
  obtain ⟨a, e0, _⟩ := int_of_trod h0
  obtain ⟨b, e1, _⟩ := int_of_trod h1
  obtain ⟨A, c, P, e2, hk, _⟩ := keys_of_trod Tryz.underlying25 h2 (fun m hm => hw' m (DataW.weights_mem_each (j := 2) rfl rfl m hm))
  refine ⟨a, b, A, c, P, ?_, hk⟩
  match cs, hl with
  | [u, v, z], _ =>
    simp only [List.drop_zero, List.take_succ_cons, List.take_zero, List.drop_succ_cons, List.cons.injEq, and_true] at e0 e1 e2
    rw [e0, e1, e2]
set_option maxRecDepth 100000 in
theorem open_proof {H : Type} {enc : TypeId × Value → H} {W : World} {b0 : Nat} {v : Value} {d : DataW H} {ps : List MemPlace} (hval : Value.okWide Tryz.prog W .any b0 27 v) (hd : DataW.Trod enc Tryz.prog W 0 (fun _ => true) true 27 v d ps)
    (hw : ∀ n ∈ d.weights Tryz.prog 27, n ≤ reachBytes) : ∃ a b A c P, v = .agg #[.int .i64 a, .int .i64 b, .slice A (List.length P) c] ∧ KR W A c P := by
  obtain ⟨cs, rfl, hsz⟩ := okWide_struct Tryz.underlying27 hval
  obtain ⟨fuel, hf⟩ := hd
  obtain ⟨a, b, A, c, P, e, h1⟩ := proof_of_trod hf hw
  refine ⟨a, b, A, c, P, ?_, h1⟩
  have : cs = cs.toList.toArray := by simp
  rw [this]
  exact congrArg (fun l => Value.agg (List.toArray l)) e
set_option maxRecDepth 100000 in
theorem open_growth {H : Type} {enc : TypeId × Value → H} {W : World} {b0 : Nat} {v : Value} {d : DataW H} {ps : List MemPlace} (hval : Value.okWide Tryz.prog W .any b0 80 v) (hd : DataW.Trod enc Tryz.prog W 0 (fun _ => true) true 80 v d ps)
    (hw : ∀ n ∈ d.weights Tryz.prog 80, n ≤ reachBytes) : ∃ a b A c P, v = .agg #[.int .i64 a, .int .i64 b, .slice A (List.length P) c] ∧ KR W A c P := by
  obtain ⟨cs, rfl, hsz⟩ := okWide_struct Tryz.underlying80 hval
  obtain ⟨fuel, hf⟩ := hd
  obtain ⟨a, b, A, c, P, e, h1⟩ := growth_of_trod hf hw
  refine ⟨a, b, A, c, P, ?_, h1⟩
  have : cs = cs.toList.toArray := by simp
  rw [this]
  exact congrArg (fun l => Value.agg (List.toArray l)) e
end Go.Proofs.YtinpiodfpnbllaaGreatDoor
