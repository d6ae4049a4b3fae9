/-
  Lemmas and contracts, joined.
-/
import Derived.Deep.QuietTactic
import Derived.BigQuiet
import Derived.SizedLaws
import Derived.Deep.Slices
import Derived.Lib.SmallJoins
import Derived.Deep.Strs
import Derived.Test.YtchnaimpmegbkaaGreatDoorTfTopFramedW2
import Derived.Test.YtchnaimpmegbkaaGreatDoorTfTw1
import Derived.Test.YtchnaimpmegbkaaGreatDoorTfTh1
set_option linter.unusedSimpArgs false
set_option linter.unusedVariables false
set_option linter.unnecessarySimpa false
/- The law TopFramed: the walk. -/
namespace Go.Proofs.YtchnaimpmegbkaaGreatDoor
open Go.RowKit
set_option linter.unusedVariables false
set_option linter.unusedSimpArgs false

set_option maxHeartbeats 16000000 in
set_option maxRecDepth 100000 in
theorem framed_all (s : StV) (A : Option Addr) (c : Nat) (rs0 : List BRow) (K : List UInt8) (C : Nat) (Y : Option Addr) (d : Nat) (y : List UInt8) (need : Int) (w0 : World) {U ny : Nat} (hn0 : rs0.length = U) (hny : y.length = ny) (h0 : StOK w0 s) (hR0 : RR w0 A c rs0) (hK : K.length = 16) (hC : C < 65536) (hy0 : BR w0 Y d y) (hT : TestsIn w0) :
    Calls Tryz.prog 4 #[.agg s.cs.toArray, .slice A U c, .agg (cellsB K).toArray, .int .u16 (C : Int), .slice Y ny d, .int .i64 need] w0 fun e w' => e = .returned (.bool true) ∧ Below w0.heap.size w0 w' := by
  have hkk := h0.k16
  obtain ⟨w, hW0⟩ : ∃ W : World, W = (w0.alloc (.cells s.cs.toArray 29)).alloc (.cells (cellsB K).toArray 23) := ⟨_, rfl⟩
  have b0 : Hid (Below w0.heap.size w0 w) := by unfold Hid; rw [hW0]; exact alloc2_bel w0 _ _
  have HXT : Hid (∀ W, Below w.heap.size w W → Blk W w0.heap.size 29 s.cs.toArray) := fun W hW => Blk.below' (by rw [hW0]; exact blk_b0 w0 _ _ _) hW
  have HXK : Hid (∀ W, Below w.heap.size w W → Blk W (w0.heap.size + 1) 23 (cellsB K).toArray) := fun W hW => Blk.below' (by rw [hW0]; exact blk_b1 w0 _ _ _) hW
  have HW0 := Lib.hid hW0
  have HIN := Lib.hid (StV.info (s := s) hkk)
  have H20 : Hid (s.cs.length = 20) := StV.len hkk
  have HAL : Hid (∀ v ∈ s.cs, v.oneCell' = true) := by
    have := StV.all s
    rw [List.all_toArray, List.all_eq_true] at this
    exact this
  have K0 : Hid (Below w.heap.size w w) := Below.refl _ _
  have HT := Lib.hid (hT.below_ b0.out)
  have HA : Hid (∀ W, Below w.heap.size w W → Calls Tryz.prog 5 #[] W fun e w' => e = .returned (.bool true) ∧ Below W.heap.size W w') := fun W hW => alive09_any W (HT.out.below_ hW)
  have hR := hR0.below b0.out
  have h := h0.below b0.out
  have HSZ : Hid (∀ W, Below w.heap.size w W → Calls Tryz.prog 6 #[.agg s.cs.toArray, .slice A U c] W fun e w' => e = .returned (.bool (sizedB s (rs0.map BRow.l))) ∧ Below W.heap.size W w') := fun W hW => sized_any s A c rs0 W hn0 (h.below hW) (hR.below hW)
  have hnyl : (ny : Int) ≤ 140737488351232 := by have := hy0.len; omega
  have hnl : (U : Int) ≤ 140737488351232 := by have := hR0.1.len; omega
  cases hz : sizedB s (rs0.map BRow.l)
  · rw [hz] at HSZ
    clear hW0 h0 hR0 hy0 hT hn0 hny hK hC hz hkk hR h
    go_enter Tryz.func4, Tryz.ntmps4
    go_wp2_with (first | (rw [← HW0.out]))
    refine (HA.out _ K0.out).mono ?_
    rintro e w1 ⟨rfl, hb1⟩
    have K1 : Hid (Below w.heap.size w w1) := hb1
    clear hb1
    go_wp2_with (first | (refine wpList_load_row rfl 29 (.tmp 6) rfl w0.heap.size rfl 29 s.cs.toArray (0, 0) _ (HXT.out _ K1.out) Tryz.underlying29 rfl HIN.out ?_))
    refine (HSZ.out _ K1.out).mono ?_
    rintro e w2 ⟨rfl, hb2⟩
    have K2 : Hid (Below w.heap.size w w2) := bel_on K1.out hb2
    clear hb2
  
    go_wp2_with fail
    go_ret
    exact ⟨by simp, bel_on b0.out K2.out⟩
  obtain ⟨hok, hus, hm1, hm2, hall⟩ := sizedB_iff.1 hz
  obtain ⟨D, mm, hD, hu0, hd1, hd2, hmm1, hmm2, hnm⟩ := StV.nats hok
  have hU : mm + 1 = U := by rw [List.length_map, hn0] at hus; omega
  obtain ⟨n1, n2, -⟩ := StV.n_le hok
  obtain ⟨hs, hhs⟩ : ∃ q, rs0.map BRow.l = q := ⟨_, rfl⟩
  rw [hhs] at HSZ hz hall hm1 hm2
  have hlen : hs.length = U := by rw [← hhs, List.length_map, hn0]
  obtain ⟨bA, oA, r0, rfl, hbA, hr0, hc0, -⟩ := hR.at_ (i := 0) (by omega)
  rw [Nat.add_zero] at hc0
  have e0 : hd hs = r0.l := by rw [← hhs]; exact row_l hr0
  rw [e0] at hm1 hm2 hall
  obtain ⟨m, hm⟩ : ∃ q, r0.l.length = q := ⟨_, rfl⟩
  rw [hm] at hm1 hm2 hall hc0
  have hh : ∀ x, x < hs.length → wordB (hs.getD x []) m = true := fun x hx => by
    rw [List.getD_eq_getElem?_getD, List.getElem?_eq_getElem hx]
    exact hall _ (List.getElem_mem hx)
  obtain ⟨n, hn⟩ : ∃ n, s.n = n := ⟨_, rfl⟩
  rw [hn] at n1 n2 hnm
  obtain ⟨N, hN⟩ : ∃ N, n + m = N := ⟨_, rfl⟩
  have HC0 : Hid (∀ W, Below w.heap.size w W → W.cell? ⟨w0.heap.size, 0, none⟩ = some (.int .i64 (U : Int)) ∧ W.cell? ⟨w0.heap.size, 1, none⟩ = some (.int .i64 (D : Int)) ∧ W.cell? ⟨bA, oA, none⟩ = some (.slice r0.A m r0.c)) := fun W hW => by
    obtain ⟨g0, g1, -, -⟩ := StV.cells hkk (HXT.out W hW)
    rw [hu0, hU] at g0
    rw [hD] at g1
    exact ⟨g0, g1, cell_up hW hc0⟩
  have HROW : Hid (∀ x, x < U → ∃ X xc, ∀ W, Below w.heap.size w W → W.cell? ⟨bA, oA + x, none⟩ = some (.slice X m xc) ∧ BR W X xc (hs.getD x [])) := fun x hx => by
    obtain ⟨b', off', r, e, hb, hr, hcr, hRr⟩ := hR.at_ (i := x) (by omega)
    injection e with e
    injection e with e1 e2
    subst e1 e2
    have hrl : hs.getD x [] = r.l := by rw [← hhs]; exact row_l hr
    have hl : r.l.length = m := by rw [← hrl]; exact wordB_len (hh x (by omega))
    rw [hl] at hcr
    exact ⟨r.A, r.c, fun W hW => ⟨cell_up hW hcr, by rw [hrl]; exact hRr.below hW⟩⟩
  have hhalf : ∀ r ∈ rs0, halfB r.l 1 = true := fun r hr => by
    obtain ⟨h1, h2⟩ := wordB_sym (hall _ (by rw [← hhs]; exact List.mem_map.2 ⟨r, hr, rfl⟩))
    exact halfB_iff.2 ⟨⟨by omega, by omega⟩, symB_iff.2 fun i hi => h2 i (by omega)⟩
  have HHX : Hid (∀ x, x < U → halfB (hs.getD x []) 1 = true ∧ (hs.getD x []).length = m) := fun x hx => by
    obtain ⟨h1, h2⟩ := wordB_sym (hh x (by omega))
    exact ⟨halfB_iff.2 ⟨⟨by omega, by omega⟩, symB_iff.2 fun i hi => h2 i (by omega)⟩, h1⟩
  have hni : (n : Int) ≤ 960 := by omega
  have hmi : (m : Int) ≤ 64 := by omega
  have hUi : (U : Int) ≤ 16 := by omega
  have hU1 : (2 : Int) ≤ U := by omega
  have hU0 : 0 < U := by omega
  have hU0i : (0 : Int) < U := by omega
  have hDi : (D : Int) ≤ 64 := by omega
  have hNi : (N : Int) ≤ 1024 := by omega
  have hmmi : (mm : Int) ≤ 15 := by omega
  have eu1 : IntKind.i64.wrap ((U : Int) - 1) = (mm : Int) := by rw [IntKind.wrap_i64]; omega
  have em1 : (mm : Int) * (D : Int) = (n : Int) := by rw [hnm, Int.natCast_mul]
  have em2 : IntKind.i64.wrap ((mm : Int) * (D : Int)) = (n : Int) := by rw [em1, IntKind.wrap_i64]; omega
  have eN : IntKind.i64.wrap ((n : Int) + (m : Int)) = (N : Int) := by rw [IntKind.wrap_i64]; omega
  have HIC : Hid (∀ W, Below w.heap.size w W → Calls Tryz.prog 8 #[.slice Y ny d, .int .i64 (N : Int)] W fun e w' => e = .returned (.bool (copyB y N)) ∧ W = w') := fun W hW => refIsCopy_any Y d y N W hny ((hy0.below b0.out).below hW) (by omega)
  rw [hz] at HSZ
  have HWO : Hid (∀ u : Nat, u < U → ∀ W, Below w.heap.size w W → Calls Tryz.prog 15 #[.agg s.cs.toArray, .int .i64 (u : Int)] W fun e w' => (∃ A c, e = .returned (.tuple #[.slice A n c, .int .i64 0]) ∧ OB W.heap.size w' A c (s.word u)) ∧ Below W.heap.size W w') := fun u hu2 W hW => by
    refine (StepWord_own s (u : Int) W (h.below hW) (by omega) (by omega)).mono fun e w' hq => ?_
    obtain ⟨⟨A, c, h1, h2⟩, h3⟩ := hq
    have e1 : s.wordR (u : Int) = (s.word u, 0) := by
      unfold StV.wordR
      rw [hok, if_neg (by simp), if_neg (by omega), Int.toNat_natCast]
    rw [e1] at h1 h2
    dsimp only at h1 h2
    rw [s.word_len, hn] at h1
    exact ⟨⟨A, c, h1, h2⟩, h3⟩
  have HBIT : Hid (∀ u : Nat, ∃ q bb : Nat, (C : Int) / (2 : Int) ^ u = (q : Int) ∧ bits BinOp.and IntKind.u16 (q : Int) 1 = (bb : Int) ∧ (bb = 0 ∨ bb = 1) ∧ C.testBit u = decide (bb = 1) ∧ q < 65536) := fun u => bit_u16 hC u
  have hCi : (C : Int) ≤ 65535 := by omega
  have HCU : Hid (∀ u, (coal C u).length ≤ u) := fun u => coal_len C u
  have HUN : Hid (U ≤ 16) := by unfold Hid; omega
  have HWL : Hid (∀ u, (s.word u).length = n) := fun u => by rw [s.word_len, hn]
  have HWD : Hid (∀ u, s.wd hs u = s.word u ++ hs.getD u []) := fun u => rfl
  have HOK := Lib.hid hok
  have HHN := Lib.hid hn
  have HNM := Lib.hid hnm
  have HNN := Lib.hid hN
  have HDD := Lib.hid hD
  have HUU : Hid (s.u = ((mm + 1 : Nat) : Int)) := hu0
  have HUM := Lib.hid hU
  have HLEN := Lib.hid hlen
  have HHH := Lib.hid hh
  have HSH := Lib.hid hhs
  have HBN : Hid ((1 ≤ n ∧ n ≤ 960) ∧ (1 ≤ m ∧ m ≤ 64) ∧ (1 ≤ D ∧ D ≤ 64) ∧ (1 ≤ mm ∧ mm ≤ 15)) := ⟨⟨by omega, by omega⟩, ⟨by omega, by omega⟩, ⟨by omega, by omega⟩, ⟨by omega, by omega⟩⟩
  have HST : Hid (∀ W, Below w.heap.size w W → StOK W s) := fun W hW => h.below hW
  have HRR0 : Hid (∀ W, Below w.heap.size w W → RR W (some ⟨bA, oA, none⟩) c rs0) := fun W hW => hR.below hW
  have HYY : Hid (∀ W, Below w.heap.size w W → BR W Y d y) := fun W hW => (hy0.below b0.out).below hW
  have HKL := Lib.hid hK
  have HHALF := Lib.hid hhalf
  have HN0 := Lib.hid hn0
  have HNY := Lib.hid hny
  clear hok hn hnm hN hD hu0 hU hlen hh hhs hd1 hd2 hmm1 hmm2 n1 n2 hm1 hm2 hall hus hhalf h0 hR0 hK hy0 hT hn0 hny hkk hR h hz hC em1
  clear hW0 hc0 hr0 e0 hm hbA
  go_enter Tryz.func4, Tryz.ntmps4
  go_wp2_with (first | (rw [← HW0.out]))
  refine (HA.out _ K0.out).mono ?_
  rintro e w1 ⟨rfl, hb1⟩
  have K1 : Hid (Below w.heap.size w w1) := hb1
  clear hb1
  go_wp2_with (first | (refine wpList_load_row rfl 29 (.tmp 6) rfl w0.heap.size rfl 29 s.cs.toArray (0, 0) _ (HXT.out _ K1.out) Tryz.underlying29 rfl HIN.out ?_))
  refine (HSZ.out _ K1.out).mono ?_
  rintro e w2 ⟨rfl, hb2⟩
  have K2 : Hid (Below w.heap.size w w2) := bel_on K1.out hb2
  clear hb2

  go_wp2_with fail
  --MARK 0
  refine wp_region_noPanic ?_
  refine wp_region_held_drew (S := fun W' => Below w2.heap.size w2 W') (by kernel_rfl) (Below.refl _ _).drew (fun hS => ?_)
  refine hd_take 0 (_) rfl rfl (by kernel_rfl) (by kernel_rfl) (by kernel_rfl) (fun _ _ _ h => h) (fun w hw => by go_simp <;> rfl) hS ?_
  simp only [List.getElem_toArray, List.getElem_cons_succ, List.getElem_cons_zero, Act.put, List.setIfInBounds_toArray, List.set_cons_zero, List.set_cons_succ]
  refine hd_take 1 (.int .i64 (U : Int)) rfl rfl (by kernel_rfl) (by kernel_rfl) (by kernel_rfl) (fun _ _ _ h => h) (fun w hw => by have hx := (HC0.out _ (bel_on K2.out hw)).1; simp [go_sem, hx]) hS ?_
  simp only [List.getElem_toArray, List.getElem_cons_succ, List.getElem_cons_zero, Act.put, List.setIfInBounds_toArray, List.set_cons_zero, List.set_cons_succ]
  refine hd_take 2 (.int .i64 (mm : Int)) rfl rfl (by kernel_rfl) (by kernel_rfl) (by kernel_rfl) (fun _ _ _ h => h) (fun w hw => by simp [go_sem, eu1]) hS ?_
  simp only [List.getElem_toArray, List.getElem_cons_succ, List.getElem_cons_zero, Act.put, List.setIfInBounds_toArray, List.set_cons_zero, List.set_cons_succ]
  refine hd_take 3 (_) rfl rfl (by kernel_rfl) (by kernel_rfl) (by kernel_rfl) (fun _ _ _ h => h) (fun w hw => by go_simp <;> rfl) hS ?_
  simp only [List.getElem_toArray, List.getElem_cons_succ, List.getElem_cons_zero, Act.put, List.setIfInBounds_toArray, List.set_cons_zero, List.set_cons_succ]
  refine hd_take 4 (.int .i64 (D : Int)) rfl rfl (by kernel_rfl) (by kernel_rfl) (by kernel_rfl) (fun _ _ _ h => h) (fun w hw => by have hx := (HC0.out _ (bel_on K2.out hw)).2.1; simp [go_sem, hx]) hS ?_
  simp only [List.getElem_toArray, List.getElem_cons_succ, List.getElem_cons_zero, Act.put, List.setIfInBounds_toArray, List.set_cons_zero, List.set_cons_succ]
  refine hd_take 5 (.int .i64 (n : Int)) rfl rfl (by kernel_rfl) (by kernel_rfl) (by kernel_rfl) (fun _ _ _ h => h) (fun w hw => by simp [go_sem, em2]) hS ?_
  simp only [List.getElem_toArray, List.getElem_cons_succ, List.getElem_cons_zero, Act.put, List.setIfInBounds_toArray, List.set_cons_zero, List.set_cons_succ]
  refine hd_take 6 (_) rfl rfl (by kernel_rfl) (by kernel_rfl) (by kernel_rfl) (fun _ _ _ h => h) (fun w hw => by go_simp <;> rfl) hS ?_
  simp only [List.getElem_toArray, List.getElem_cons_succ, List.getElem_cons_zero, Act.put, List.setIfInBounds_toArray, List.set_cons_zero, List.set_cons_succ]
  refine hd_take 7 (_) rfl rfl (by kernel_rfl) (by kernel_rfl) (by kernel_rfl) (fun _ _ _ h => h) (fun w hw => by go_simp <;> rfl) hS ?_
  simp only [List.getElem_toArray, List.getElem_cons_succ, List.getElem_cons_zero, Act.put, List.setIfInBounds_toArray, List.set_cons_zero, List.set_cons_succ]
  refine hd_take 8 (.slice r0.A m r0.c) rfl rfl (by kernel_rfl) (by kernel_rfl) (by kernel_rfl) (fun _ _ _ h => h) (fun w hw => by have hx := (HC0.out _ (bel_on K2.out hw)).2.2; simp [go_sem, hx]) hS ?_
  simp only [List.getElem_toArray, List.getElem_cons_succ, List.getElem_cons_zero, Act.put, List.setIfInBounds_toArray, List.set_cons_zero, List.set_cons_succ]
  refine hd_take 9 (_) rfl rfl (by kernel_rfl) (by kernel_rfl) (by kernel_rfl) (fun _ _ _ h => h) (fun w hw => by go_simp <;> rfl) hS ?_
  simp only [List.getElem_toArray, List.getElem_cons_succ, List.getElem_cons_zero, Act.put, List.setIfInBounds_toArray, List.set_cons_zero, List.set_cons_succ]
  refine hd_take 10 (_) rfl rfl (by kernel_rfl) (by kernel_rfl) (by kernel_rfl) (fun _ _ _ h => h) (fun w hw => by go_simp <;> rfl) hS ?_
  simp only [List.getElem_toArray, List.getElem_cons_succ, List.getElem_cons_zero, Act.put, List.setIfInBounds_toArray, List.set_cons_zero, List.set_cons_succ]
  refine hd_take 11 (_) rfl rfl (by kernel_rfl) (by kernel_rfl) (by kernel_rfl) (fun _ _ _ h => h) (fun w hw => by go_simp <;> rfl) hS ?_
  simp only [List.getElem_toArray, List.getElem_cons_succ, List.getElem_cons_zero, Act.put, List.setIfInBounds_toArray, List.set_cons_zero, List.set_cons_succ]
  refine wpAnyH_done (by kernel_rfl) (NoPanic.normal ?_) _
  obtain ⟨w3, hw3⟩ : ∃ W, W = w2.drew := ⟨_, rfl⟩
  rw [← hw3]
  have K3 : Hid (Below w.heap.size w w3) := by unfold Hid; rw [hw3]; exact bel_on K2.out (Below.refl _ _).drew
  clear hS hw3
  go_wp2_with fail
  refine (HIC.out _ K3.out).mono ?_
  rintro e w3' ⟨rfl, rfl⟩
  cases g5 : copyB y N
  · go_wp2_with fail
    go_ret
    exact ⟨by simp, bel_on b0.out K3.out⟩
  by_cases g6 : need < 1
  · go_wp2_with fail
    go_ret
    exact ⟨by simp, bel_on b0.out K3.out⟩
  by_cases g7 : (m : Int) < need
  · go_wp2_with fail
    go_ret
    exact ⟨by simp, bel_on b0.out K3.out⟩
  have HYN : Hid (copyB y N = true) := g5
  have hnyN : ny = N := by have := copyB_len g5; have := HNY.out; omega
  obtain ⟨nd, rfl⟩ : ∃ q : Nat, need = (q : Int) := ⟨need.toNat, by omega⟩
  have HND : Hid (1 ≤ nd ∧ nd ≤ m) := ⟨by omega, by omega⟩
  have hni1 : (1 : Int) ≤ nd := by omega
  have hni2 : (nd : Int) ≤ 64 := by omega
  have hni3 : ¬ (m : Int) < (nd : Int) := by omega
  have hni4 : ¬ (nd : Int) < 1 := by omega
  clear g5 g6 g7
  have te1 : decide ((nd : Int) < 1) = false := by simp; omega
  have te2 : decide ((m : Int) < (nd : Int)) = false := by simp; omega
  go_wp2_with fail
  have te3 : decide (m < nd) = false := by have := HND.out; simp; omega
  (first | simp only [te1, te2, te3] | skip)
  clear te1 te2 te3 hni3 hni4
  --MARK 1
  go_loopw [16, 17, 18] (fun vm vo vu wr => ∃ (u : Nat) (A0 : Option Addr) (ci : Nat) (A1 : Option Addr) (ca : Nat) (rs : List BRow), u ≤ U ∧ vu = .int .i64 (u : Int) ∧ vm = .slice A0 (coal C u).length ci ∧ vo = .slice A1 (coal C u).length ca ∧ Hid (rs.map BRow.l = (coal C u).map (s.wd hs)) ∧ Hid (rs.length = (coal C u).length) ∧ Hid (OI w.heap.size wr A0 ci (natI (coal C u))) ∧ Hid (RO w.heap.size wr A1 ca rs) ∧ Hid (∀ r ∈ rs, OB w.heap.size wr r.A r.c r.l) ∧ Below w.heap.size w wr) (fun _ _ vu _ => U - (intOf vu).toNat)
  case atStart => exact ⟨0, none, 0, none, 0, [], by omega, rfl, rfl, rfl, rfl, rfl, OI.nil _ _, RO.nil _ _, (fun r hr => by cases hr), K3.out⟩
  case round =>
    obtain ⟨u, A0, ci, A1, ca, rs, hu, rfl, rfl, rfl, HL, HK, HI, HR, HB, hbel⟩ := hrel
    obtain ⟨wr1, hwr1⟩ : ∃ W, W = wr := ⟨_, rfl⟩
    subst hwr1
    obtain ⟨c0, c1', -⟩ := HC0.out _ hbel
    by_cases huU : u < U
    · have hui : (u : Int) < U := by omega
      have hu0' : (0 : Int) ≤ u := by omega
      obtain ⟨q, bb, hshr, hand, hb2, htb, hq⟩ := HBIT.out u
      have hqi : (q : Int) ≤ 65535 := by omega
      have HXU := HCU.out u
      rcases hb2 with rfl | rfl
      · have htb0 : C.testBit u = false := by rw [htb]; rfl
        have HE := Lib.hid (coal_no htb0)
        have hand' : bits BinOp.and IntKind.u16 (q : Int) 1 = 0 := hand
        clear htb htb0 hand hq huU HXU
        obtain ⟨xl, hxl⟩ : ∃ q, (coal C u).length = q := ⟨_, rfl⟩
        have HXE := Lib.hid hxl
        rw [hxl]
        clear hxl
        go_wp2_with fail
        go_roundw
        case rel => exact ⟨u + 1, A0, ci, A1, ca, rs, by omega, by go_num, by rw [HE.out, HXE.out], by rw [HE.out, HXE.out], by rw [HE.out]; exact HL.out, by rw [HE.out]; exact HK.out, by rw [HE.out]; exact HI.out, HR.out, HB.out, hbel⟩
        case measure => simp [intOf]; omega
      · have htb1 : C.testBit u = true := by rw [htb]; rfl
        have HE := Lib.hid (coal_yes htb1)
        have HEC : Hid (coal C (u + 1) = coal C u ++ [u]) := by unfold Hid; rw [coal, if_pos htb1]
        have hand' : bits BinOp.and IntKind.u16 (q : Int) 1 = 1 := hand
        have HXL : Hid (rs.length ≤ 16) := by have := HK.out; have := HUN.out; unfold Hid; omega
        have HWU := Lib.hid (HWO.out u huU)
        obtain ⟨X, xc, hrow⟩ := HROW.out u huU
        have HRW := Lib.hid hrow
        have HHL := Lib.hid (HHX.out u huU).2
        have HNL : Hid ((natI (coal C u)).length = (coal C u).length) := by unfold Hid natI; rw [List.length_map]
        clear htb htb1 hand hq huU HXU hrow
        obtain ⟨xl, hxl⟩ : ∃ q, (coal C u).length = q := ⟨_, rfl⟩
        rw [hxl] at HK HE HNL ⊢
        clear hxl
        go_wp2_with (first | (refine wpList_load_row rfl 29 (.tmp 6) rfl w0.heap.size rfl 29 s.cs.toArray (0, 0) _ (HXT.out _ hbel) Tryz.underlying29 rfl HIN.out ?_))
        refine (HWU.out _ hbel).mono ?_
        rintro e w4 ⟨⟨A3, c3, rfl, hv3⟩, hb3⟩
        have K4 : Hid (Below w.heap.size w w4) := bel_on hbel hb3
        have V4 : Hid (OB w.heap.size w4 A3 c3 (s.word u)) := OB.le_ hv3 hbel.size
        have R4 := Lib.hid (HR.out.below hb3)
        have I4 := Lib.hid (HI.out.below hb3)
        have B4 : Hid (∀ r ∈ rs, OB w.heap.size w4 r.A r.c r.l) := fun r hr => (HB.out r hr).below hb3
        clear c0 c1' hv3 hb3 HI HR HB
        have hnn : ¬ ((n : Int) ≠ (n : Int)) := by simp
        go_wp2_with (first
          | (at_builtin; refine wpList_append_int _ rfl (.tmp 97) (.tmp 99) rfl w.heap.size A0 xl ci (natI (coal C u)) HNL.out rfl (I4.out.below (alloc_bel _ _)) (u : Int) (some ⟨w4.heap.size, 0, none⟩) 1 rfl (Src.one _ _ _) (by have := HXL.out; have := HK.out; omega) (by have := K4.out.size; simp; omega) ?_; intro A4 c4 w5 hon5 hbl5 hg5))
        have K5 : Hid (Below w.heap.size w w5) := (bel_on K4.out (alloc_bel w4 _)).trans hbl5
        have hio := I4.out.below (alloc_bel w4 (.cells #[.int .i64 (u : Int)] 3))
        unfold OI at hio
        rw [HNL.out] at hio
        have V5 : Hid (OB w.heap.size w5 A3 c3 (s.word u)) := own_kept (V4.out.below (alloc_bel w4 _)) hio (by decide) hg5
        have R5 : Hid (RO w.heap.size w5 A1 ca rs) := own_kept (R4.out.below (alloc_bel w4 _)) hio (by decide) hg5
        have B5 : Hid (∀ r ∈ rs, OB w.heap.size w5 r.A r.c r.l) := fun r hr => own_kept ((B4.out r hr).below (alloc_bel w4 _)) hio (by decide) hg5
        have I5 := Lib.hid hon5
        clear hio hon5 hbl5 hg5 V4 R4 I4 B4
        --MARK 2
        refine wp_region_noPanic ?_
        refine wp_region_held_drew (S := fun W' => Below w.heap.size w W') (by kernel_rfl) K5.out.drew (fun hS => ?_)
        refine hd_take 0 (_) rfl rfl (by kernel_rfl) (by kernel_rfl) (by kernel_rfl) (fun _ _ _ h => h) (fun w hw => by go_simp <;> rfl) hS ?_
        simp only [List.getElem_toArray, List.getElem_cons_succ, List.getElem_cons_zero, Act.put, List.setIfInBounds_toArray, List.set_cons_zero, List.set_cons_succ]
        refine hd_take 2 (_) rfl rfl (by kernel_rfl) (by kernel_rfl) (by kernel_rfl) (fun _ _ _ h => h) (fun w hw => by go_simp <;> rfl) hS ?_
        simp only [List.getElem_toArray, List.getElem_cons_succ, List.getElem_cons_zero, Act.put, List.setIfInBounds_toArray, List.set_cons_zero, List.set_cons_succ]
        refine hd_take 4 (_) rfl rfl (by kernel_rfl) (by kernel_rfl) (by kernel_rfl) (fun _ _ _ h => h) (fun w hw => by go_simp <;> rfl) hS ?_
        simp only [List.getElem_toArray, List.getElem_cons_succ, List.getElem_cons_zero, Act.put, List.setIfInBounds_toArray, List.set_cons_zero, List.set_cons_succ]
        refine hd_take 5 (_) rfl rfl (by kernel_rfl) (by kernel_rfl) (by kernel_rfl) (fun _ _ _ h => h) (fun w hw => by go_simp <;> rfl) hS ?_
        simp only [List.getElem_toArray, List.getElem_cons_succ, List.getElem_cons_zero, Act.put, List.setIfInBounds_toArray, List.set_cons_zero, List.set_cons_succ]
        refine hd_take 6 (_) rfl rfl (by kernel_rfl) (by kernel_rfl) (by kernel_rfl) (fun _ _ _ h => h) (fun w hw => by go_simp <;> rfl) hS ?_
        simp only [List.getElem_toArray, List.getElem_cons_succ, List.getElem_cons_zero, Act.put, List.setIfInBounds_toArray, List.set_cons_zero, List.set_cons_succ]
        refine hd_take 7 (.slice X m xc) rfl rfl (by kernel_rfl) (by kernel_rfl) (by kernel_rfl) (fun _ _ _ h => h) (fun w hw => by have hx := (HRW.out _ hw).1; simp [go_sem, hx]) hS ?_
        simp only [List.getElem_toArray, List.getElem_cons_succ, List.getElem_cons_zero, Act.put, List.setIfInBounds_toArray, List.set_cons_zero, List.set_cons_succ]
        have d0 : Below w5.heap.size w5 (w5.drew.alloc (.cells (cellsB []).toArray 5)) := bel_on (Below.refl _ _).drew (alloc_bel w5.drew _)
        refine hd_sole 1 (by kernel_rfl) (op_run (.slice (some ⟨w5.heap.size, 0, none⟩) 0 0) (w5.drew.alloc (.cells (cellsB []).toArray 5)) rfl rfl (by go_simp <;> rfl) ⟨bel_on K5.out d0, ?_⟩)
        simp only [List.getElem_toArray, List.getElem_cons_succ, List.getElem_cons_zero, Act.put, List.setIfInBounds_toArray, List.set_cons_zero, List.set_cons_succ]
        refine hd_appB 3 (.tmp 102) (.tmp 103) rfl rfl rfl (by kernel_rfl) w5.heap.size (some ⟨w5.heap.size, 0, none⟩) 0 0 [] rfl rfl (OB.lit _ w5.drew [] (Nat.le_refl _) (by simp) rfl) A3 n c3 (s.word u) (HWL.out u) rfl (((V5.out.br (by rw [HWL.out u]; omega)).below d0).src (HWL.out u)) (by omega) d0.size ?_
        intro A7 c7 w6 hon6 hbl6
        have d1 := d0.trans hbl6
        refine ⟨bel_on K5.out d1, ?_⟩
        simp only [List.getElem_toArray, List.getElem_cons_succ, List.getElem_cons_zero, Act.put, List.setIfInBounds_toArray, List.set_cons_zero, List.set_cons_succ]
        simp only [Nat.zero_add]
        refine hd_appB 8 (.tmp 104) (.tmp 108) rfl rfl rfl (by kernel_rfl) w5.heap.size A7 n c7 (s.word u) (HWL.out u) rfl hon6 X m xc (hs.getD u []) HHL.out rfl ((HRW.out _ (bel_on K5.out d1)).2.src HHL.out) (by omega) d1.size ?_
        intro A8 c8 w7 hon7 hbl7
        have d2 := d1.trans hbl7
        refine ⟨bel_on K5.out d2, ?_⟩
        simp only [List.getElem_toArray, List.getElem_cons_succ, List.getElem_cons_zero, Act.put, List.setIfInBounds_toArray, List.set_cons_zero, List.set_cons_succ]
        have hwl : (s.word u ++ hs.getD u []).length = n + m := by rw [List.length_append, HWL.out u, HHL.out]
        have d3 : Below w5.heap.size w5 (w7.alloc (.cells #[.slice A8 (n + m) c8] 31)) := bel_on d2 (alloc_bel w7 _)
        refine hd_sole 9 (by kernel_rfl) (op_run (.slice (some ⟨w7.heap.size, 0, none⟩) 1 1) (w7.alloc (.cells #[.slice A8 (n + m) c8] 31)) rfl rfl (by go_simp <;> rfl) ⟨bel_on K5.out d3, ?_⟩)
        simp only [List.getElem_toArray, List.getElem_cons_succ, List.getElem_cons_zero, Act.put, List.setIfInBounds_toArray, List.set_cons_zero, List.set_cons_succ]
        refine hd_appR 10 (.tmp 101) (.tmp 110) rfl rfl rfl (by kernel_rfl) w.heap.size A1 xl ca rs HK.out rfl (R5.out.below d3) (some ⟨w7.heap.size, 0, none⟩) 1 ⟨A8, c8, s.word u ++ hs.getD u []⟩ rfl (by show Src _ 1 _ 1 [.slice A8 (s.word u ++ hs.getD u []).length c8]; rw [hwl]; exact Src.one _ _ _) (by have := HXL.out; have := HK.out; omega) (bel_on K5.out d3).size ?_
        intro A9 c9 w9 hon9 hbl9 hg9
        have d4 : Below w.heap.size w w9 := (bel_on K5.out d3).trans hbl9
        refine ⟨d4, ?_⟩
        simp only [List.getElem_toArray, List.getElem_cons_succ, List.getElem_cons_zero, Act.put, List.setIfInBounds_toArray, List.set_cons_zero, List.set_cons_succ]
        refine hd_take 11 (.slice A9 (xl + 1) c9) rfl rfl (by kernel_rfl) (by kernel_rfl) (by kernel_rfl) (fun _ _ _ h => h) (fun w hw => rfl) d4 ?_
        simp only [List.getElem_toArray, List.getElem_cons_succ, List.getElem_cons_zero, Act.put, List.setIfInBounds_toArray, List.set_cons_zero, List.set_cons_succ]
        refine wpAnyH_done (by kernel_rfl) (NoPanic.normal ?_) _
        have hro := R5.out.below d3
        unfold RO at hro
        rw [HK.out] at hro
        have B9 : Hid (∀ r ∈ rs ++ [(⟨A8, c8, s.word u ++ hs.getD u []⟩ : BRow)], OB w.heap.size w9 r.A r.c r.l) := fun r hr => by
          rcases List.mem_append.1 hr with hr | hr
          · exact own_kept ((B5.out r hr).below d3) hro (by decide) hg9
          · rw [List.mem_singleton.1 hr]
            exact OB.le_ (B := w5.heap.size) (own_kept (hon7.below (alloc_bel w7 _)) hro (by decide) hg9) K5.out.size
        have I9 : Hid (OI w.heap.size w9 A4 c4 (natI (coal C u) ++ [(u : Int)])) := own_kept (I5.out.below d3) hro (by decide) hg9
        have R9 := Lib.hid hon9
        have K9 := Lib.hid d4
        clear hS hro hon6 hon7 hon9 hbl6 hbl7 hbl9 hg9 d0 d1 d2 d3 d4 hwl
        go_wp2_with fail
        go_roundw
        --MARK 3
        case rel => exact ⟨u + 1, A4, c4, A9, c9, rs ++ [(⟨A8, c8, s.word u ++ hs.getD u []⟩ : BRow)], by omega, by go_num, by rw [HE.out], by rw [HE.out], by unfold Hid; rw [HEC.out, List.map_append, List.map_append, HL.out]; rfl, by unfold Hid; rw [List.length_append, HK.out, HE.out]; rfl, by unfold Hid; rw [HEC.out]; simpa [natI] using I9.out, R9.out, B9.out, K9.out⟩
        case measure => simp [intOf]; omega
    --MARK 4
    · have huu : U = u := by omega
      subst huu
      have hx5 : ¬ ((U : Int) < (U : Int)) := by omega
      have HXU := HCU.out U
      obtain ⟨xs, hxs⟩ : ∃ q, coal C U = q := ⟨_, rfl⟩
      have HXM : Hid (∀ x ∈ xs, x < U) := fun x hx => by rw [← hxs] at hx; exact (coal_mem.1 hx).1
      rw [hxs] at HL HK HI HXU ⊢
      obtain ⟨xl, hxl⟩ : ∃ q, xs.length = q := ⟨_, rfl⟩
      rw [hxl] at HK HXU ⊢
      have hxi : (xl : Int) ≤ 16 := by omega
      have HXL := Lib.hid hxl
      have KQ : Hid (Below w.heap.size w wr1) := hbel
      clear hxs hxl huU HBIT HCU
      by_cases hx0 : xl = 0
      · subst hx0
        go_wp2_with fail
        go_ret
        exact ⟨by simp, bel_on b0.out KQ.out⟩
      have HXP : Hid (0 < xl) := by unfold Hid; omega
      have hxpi : (0 : Int) < xl := by omega
      have tx1 : decide ((xl : Int) = 0) = false := by simp; omega
      have tx2 : ((xl : Int) == 0) = false := by simp; omega
      have tx3 : decide (xl = 0) = false := by simp; omega
      have tx4 : (xl == 0) = false := by simp; omega
      obtain ⟨⟨n1, n2⟩, ⟨m1, m2⟩, ⟨D1, D2⟩, ⟨mm1, mm2⟩⟩ := HBN.out
      obtain ⟨nd1, nd2⟩ := HND.out
      have hnm0 : n + m = N := HNN.out
      have hhx : ∀ x, x < hs.length → wordB (hs.getD x []) m = true := HHH.out
      have hlenU : hs.length = U := HLEN.out
      have hxlt : ∀ x ∈ xs, x < hs.length := fun x hx => by rw [hlenU]; exact HXM.out x hx
      have HRLN : Hid (∀ r ∈ rs, r.l.length = N ∧ ∀ i, bt r.l i ≤ 1) := fun r hr => by
        have hm : r.l ∈ rs.map BRow.l := List.mem_map.2 ⟨r, hr, rfl⟩
        rw [HL.out] at hm
        obtain ⟨x, hx, he⟩ := List.mem_map.1 hm
        rw [← he]
        exact ⟨by rw [StV.wd_len HHN.out hhx (hxlt x hx), hnm0], fun i => StV.wd_bit HHN.out hhx (hxlt x hx) i⟩
      have HRQ : Hid (∀ W, Below wr1.heap.size wr1 W → RR W A1 ca rs) := fun W hW => RR.below (RO.rr HR.out (by have := HK.out; omega) (fun r hr => (HB.out r hr).br (by rw [(HRLN.out r hr).1]; omega))) hW
      have HIQ : Hid (∀ W, Below wr1.heap.size wr1 W → IR W A0 ci (natI xs)) := fun W hW => IR.below (OI.ir HI.out (by unfold natI; rw [List.length_map, HXL.out]; omega) (fun v hv => by
        unfold natI at hv
        obtain ⟨x, hx, rfl⟩ := List.mem_map.1 hv
        have := HXM.out x hx
        omega)) hW
      have HPO := Lib.hid (possible_any A1 ca rs Y d y wr1 (xs.map (s.wd hs)) (xl := xl) (ny := N) HK.out HL.out (HRQ.out _ (Below.refl _ _)) HRLN.out (by rw [HNY.out]; exact hnyN) (HYY.out _ KQ.out) HXP.out (by omega) (by omega) (by omega))
      obtain ⟨wk1, wk2⟩ := wds_ok (s := s) (hs := hs) HHN.out hhx hxlt (by rw [HXL.out]; exact HXP.out) (by rw [HXL.out]; omega) (by omega)
      rw [hnm0] at wk2
      have hzc := bring_copy wk1 wk2 HYN.out N
      have hzf := bring_feas wk1 wk2 HYN.out
      have hzl := bring_len (xs.map (s.wd hs)) y N N
      have hfnd : (nd - 1) * xs.length < readN ((bring (xs.map (s.wd hs)) y N N).drop n) m → xs.any (guiltB hs ((bring (xs.map (s.wd hs)) y N N).drop n) m nd) = true := fun g => by
        have := framed_found (s := s) (hs := hs) (n := n) (m := m) (xs := xs) (y := y) (need := nd) HHN.out hhx hxlt (by rw [HXL.out]; exact HXP.out) (by rw [hnm0]; exact HYN.out) nd1
        rw [hnm0] at this
        exact this g
      have hlone : ∀ x, xs = [x] → (bring (xs.map (s.wd hs)) y N N).take n = s.word x ∧ xs.any (guiltB hs ((bring (xs.map (s.wd hs)) y N N).drop n) m nd) = true := fun x hx => by
        have := framed_lone (s := s) (hs := hs) (n := n) (m := m) (need := nd) HHN.out hhx (hxlt x (by rw [hx]; simp)) y nd2
        rw [hnm0] at this
        rw [hx]
        exact this
      obtain ⟨zz, hzz⟩ : ∃ q, bring (xs.map (s.wd hs)) y N N = q := ⟨_, rfl⟩
      rw [hzz] at HPO hzc hzf hzl hfnd hlone
      obtain ⟨t, ht⟩ : ∃ q, zz.drop n = q := ⟨_, rfl⟩
      rw [ht] at hfnd hlone
      rw [← hnm0] at hzc
      have htc : copyB t m = true := by rw [← ht]; exact copy_drop_ hzc
      have hkc := copy_take_ hzc
      have HFND := Lib.hid hfnd
      have HLONE := Lib.hid hlone
      have HTC := Lib.hid htc
      have HTM : Hid (t.length = m) := copyB_len htc
      have HZL := Lib.hid hzl
      have HTD := Lib.hid ht
      obtain ⟨nm, hnm⟩ : ∃ q, s.nms (zz.take n) = q := ⟨_, rfl⟩
      obtain ⟨nl, hnl2⟩ : ∃ q, nm.length = q := ⟨_, rfl⟩
      have HNMS := Lib.hid hnm
      have HNML := Lib.hid hnl2
      have hnl16 : (nl : Int) ≤ 16 := by have := (StV.nms_small HOK.out (zz.take n)).1; rw [hnm, hnl2] at this; omega
      have HTR : Hid (∀ W, Below w.heap.size w W → ∀ Z z, BR W Z z (zz.take n) → Calls Tryz.prog 18 #[.agg s.cs.toArray, .slice Z n z] W fun e w' => (∃ A c, e = .returned (.tuple #[.slice A nl c, .int .i64 0]) ∧ IR w' A c nm) ∧ Below W.heap.size W w') := fun W hW Z z hZ => by
        refine (TraceSteps_any s Z z (zz.take n) W (HST.out W hW) (copyB_len hkc) hZ).mono fun e w' hq => ?_
        obtain ⟨⟨A, c, h1, h2⟩, h3⟩ := hq
        have e1 : s.nmsR (zz.take n) = (nm, 0) := by
          unfold StV.nmsR
          rw [if_neg (by rw [HOK.out]; simp), if_neg (by rw [HHN.out, hkc]; simp), hnm]
        rw [e1] at h1 h2
        dsimp only at h1 h2
        rw [hnl2] at h1
        exact ⟨⟨A, c, h1, h2⟩, h3⟩
      have HFE : Hid (∀ W Z z, RR W A1 ca rs → BR W Z z zz → Calls Tryz.prog 17 #[.slice A1 xl ca, .slice Z N z] W fun e w' => e = .returned (.tuple #[.bool true, .int .i64 0]) ∧ Below W.heap.size W w') := fun W Z z hR hZ => by
        have := Feasible_any A1 ca rs Z z zz W HK.out hzl hR hZ
        rw [HL.out, hzf] at this
        exact this
      clear hx0 n1 n2 m1 m2 D1 D2 mm1 mm2 nd1 nd2 hnm0 hhx hlenU hxlt wk1 wk2 hzc hzf hzl hfnd hlone hzz ht htc hkc hnm hnl2 hbel HR HB HL HI HXU HWO HWL HWD
      go_wp2_with fail
      --MARK 6
      refine HPO.out.mono ?_
      rintro e w5 ⟨⟨Zp, zc, rfl, hz5⟩, hb5⟩
      have K5 : Hid (Below w.heap.size w w5) := bel_on KQ.out hb5
      have Q5 : Hid (Below wr1.heap.size wr1 w5) := hb5
      obtain ⟨gz, rfl, -, -, -, -, -⟩ := hz5.room (i := 0) (by rw [HZL.out]; have := HBN.out; have := HNN.out; omega)
      have HBZ : Hid (∀ W, Below w5.heap.size w5 W → BR W (some ⟨gz, 0, none⟩) zc zz) := fun W hW => (hz5.br (by rw [HZL.out]; omega)).below hW
      have HZCAP : Hid (n ≤ zc) := by have h1 := Rd.le (HBZ.out _ (Below.refl _ _)); have h2 := HZL.out; have h3 := HNN.out; unfold Hid; omega
      have HZN : Hid (n ≤ zz.length) := by have h2 := HZL.out; have h3 := HNN.out; unfold Hid; omega
      have HFE5 := Lib.hid (HFE.out w5 _ _ (HRQ.out _ Q5.out) (HBZ.out _ (Below.refl _ _)))
      clear hz5 hb5 HFE HPO tx1 tx2 tx3 tx4
      go_wp2_with fail
      refine HFE5.out.mono ?_
      rintro e w6 ⟨rfl, hb6⟩
      have K6 : Hid (Below w.heap.size w w6) := bel_on K5.out hb6
      have F6 : Hid (Below w5.heap.size w5 w6) := hb6
      clear hb6 HFE5 c0 c1'
      go_wp2_with fail
      --MARK 7
      refine wp_region_noPanic ?_
      refine wp_region_held_drew (S := fun W' => Below w.heap.size w W') (by kernel_rfl) K6.out.drew (fun hS => ?_)
      refine hd_load 0 (w0.heap.size) (0) (s.cs) _ _ rfl rfl rfl (by kernel_rfl) (by kernel_rfl) (by kernel_rfl) (fun _ _ _ h => h) rfl (fun w hw => (HXT.out _ hw).range) Tryz.underlying29 rfl (HIN.out) hS ?_
      simp only [List.getElem_toArray, List.getElem_cons_succ, List.getElem_cons_zero, Act.put, List.setIfInBounds_toArray, List.set_cons_zero, List.set_cons_succ]
      refine hd_take 1 (_) rfl rfl (by kernel_rfl) (by kernel_rfl) (by kernel_rfl) (fun _ _ _ h => h) (fun w hw => by go_simp <;> rfl) hS ?_
      simp only [List.getElem_toArray, List.getElem_cons_succ, List.getElem_cons_zero, Act.put, List.setIfInBounds_toArray, List.set_cons_zero, List.set_cons_succ]
      refine hd_take 2 (_) rfl rfl (by kernel_rfl) (by kernel_rfl) (by kernel_rfl) (fun _ _ _ h => h) (fun w hw => by go_simp <;> rfl) hS ?_
      simp only [List.getElem_toArray, List.getElem_cons_succ, List.getElem_cons_zero, Act.put, List.setIfInBounds_toArray, List.set_cons_zero, List.set_cons_succ]
      refine hd_take 3 (.slice (some ⟨gz, 0, none⟩) n zc) rfl rfl (by kernel_rfl) (by kernel_rfl) (by kernel_rfl) (fun _ _ _ h => h) (fun w hw => by have hx := slice_bytes_to_ w (some ⟨gz, 0, none⟩) N zc n HZCAP.out; simp [execOp, Act.eval, Act.put, Sem.run_bind, Instr.sliceAt, hx]) hS ?_
      simp only [List.getElem_toArray, List.getElem_cons_succ, List.getElem_cons_zero, Act.put, List.setIfInBounds_toArray, List.set_cons_zero, List.set_cons_succ]
      have f6 : Below w6.heap.size w6 w6.drew := (Below.refl _ _).drew
      refine hd_calls 4 18 #[.agg s.cs.toArray, .slice (some ⟨gz, 0, none⟩) n zc] rfl rfl (by kernel_rfl) (by go_simp <;> rfl) ?_
      refine (HTR.out _ hS _ _ ((HBZ.out _ (bel_on F6.out f6)).take_ n HZN.out)).mono ?_
      rintro e w7 ⟨⟨A8, c8, rfl, hi8⟩, hb7⟩
      have K7 : Hid (Below w.heap.size w w7) := bel_on K6.out.drew hb7
      have F7 : Hid (Below w5.heap.size w5 w7) := bel_on (bel_on F6.out f6) hb7
      have I8 := Lib.hid hi8
      clear hb7 hi8 f6
      refine ⟨_, rfl, K7.out, ?_⟩
      simp only [List.getElem_toArray, List.getElem_cons_succ, List.getElem_cons_zero, Act.put, List.setIfInBounds_toArray, List.set_cons_zero, List.set_cons_succ]
      refine hd_take 5 (_) rfl rfl (by kernel_rfl) (by kernel_rfl) (by kernel_rfl) (fun _ _ _ h => h) (fun w hw => by go_simp <;> rfl) K7.out ?_
      simp only [List.getElem_toArray, List.getElem_cons_succ, List.getElem_cons_zero, Act.put, List.setIfInBounds_toArray, List.set_cons_zero, List.set_cons_succ]
      refine hd_take 6 (_) rfl rfl (by kernel_rfl) (by kernel_rfl) (by kernel_rfl) (fun _ _ _ h => h) (fun w hw => by go_simp <;> rfl) K7.out ?_
      simp only [List.getElem_toArray, List.getElem_cons_succ, List.getElem_cons_zero, Act.put, List.setIfInBounds_toArray, List.set_cons_zero, List.set_cons_succ]
      refine hd_take 7 (_) rfl rfl (by kernel_rfl) (by kernel_rfl) (by kernel_rfl) (fun _ _ _ h => h) (fun w hw => by go_simp <;> rfl) K7.out ?_
      simp only [List.getElem_toArray, List.getElem_cons_succ, List.getElem_cons_zero, Act.put, List.setIfInBounds_toArray, List.set_cons_zero, List.set_cons_succ]
      refine hd_take 8 (_) rfl rfl (by kernel_rfl) (by kernel_rfl) (by kernel_rfl) (fun _ _ _ h => h) (fun w hw => by go_simp <;> rfl) K7.out ?_
      simp only [List.getElem_toArray, List.getElem_cons_succ, List.getElem_cons_zero, Act.put, List.setIfInBounds_toArray, List.set_cons_zero, List.set_cons_succ]
      refine hd_take 9 (_) rfl rfl (by kernel_rfl) (by kernel_rfl) (by kernel_rfl) (fun _ _ _ h => h) (fun w hw => by go_simp <;> rfl) K7.out ?_
      simp only [List.getElem_toArray, List.getElem_cons_succ, List.getElem_cons_zero, Act.put, List.setIfInBounds_toArray, List.set_cons_zero, List.set_cons_succ]
      refine wpAnyH_done (by kernel_rfl) (NoPanic.normal ?_) _
      clear hS
      --MARK 8
      go_wp2_with (first | (refine wpList_load_row rfl 29 (.tmp 6) rfl w0.heap.size rfl 29 s.cs.toArray (0, 0) _ (HXT.out _ K7.out) Tryz.underlying29 rfl HIN.out ?_) | (refine wpList_load_row rfl 23 (.tmp 8) rfl (w0.heap.size + 1) rfl 23 (cellsB K).toArray (0, 0) _ (HXK.out _ K7.out) under_key rfl (cellsB_size _ HKL.out) ?_))
      --MARK 9
      have HRG : Hid (∀ W, Below w.heap.size w W → Calls Tryz.prog 9 #[.agg s.cs.toArray, .slice (some ⟨bA, oA, none⟩) U c, .agg (cellsB K).toArray] W fun e w' => (∃ Na a Cc b, e = .returned (.tuple #[.agg (regC s.cs (some ⟨bA, oA, none⟩) U c Na U a Cc U b (rootS (comsF K hs U))).toArray, .bool true]) ∧ KR w' Na a (nonsF K U) ∧ KR w' Cc b (comsF K hs U)) ∧ Below W.heap.size W w') := fun W hW => by
        have := registered_any s (some ⟨bA, oA, none⟩) c rs0 K W HN0.out (HST.out W hW) (HRR0.out W hW) HHALF.out HKL.out (by omega) HUN.out
        rw [HSH.out] at this
        refine this.mono fun e w' hq => ?_
        obtain ⟨⟨Na, a, Cc, b, h1, h2, h3⟩, h4⟩ := hq
        exact ⟨⟨Na, a, Cc, b, h1, h2.kr (nonsF_16 K HKL.out U) (by rw [nonsF_len]; have := HUN.out; omega), h3.kr (comsF_16 K hs U) (by rw [comsF_len]; have := HUN.out; omega)⟩, h4⟩
      refine (HRG.out _ K7.out).mono ?_
      rintro e w8 ⟨⟨Na, a, Cc, b, rfl, hN8, hC8⟩, hb8⟩
      have K8 : Hid (Below w.heap.size w w8) := bel_on K7.out hb8
      have F8 : Hid (Below w5.heap.size w5 w8) := bel_on F7.out hb8
      have I8' := Lib.hid (I8.out.below hb8)
      obtain ⟨rg, hrg⟩ : ∃ q, q = regC s.cs (some ⟨bA, oA, none⟩) U c Na U a Cc U b (rootS (comsF K hs U)) := ⟨_, rfl⟩
      have HRI : Hid ((Tryz.prog.info? 37).map (·.size) = some rg.toArray.size) := by rw [hrg]; exact reg_info H20.out (rootS_length _)
      have HRO : Hid (zReg.size = rg.toArray.size) := by rw [hrg]; exact zReg_old H20.out (rootS_length _)
      have HRA : Hid (rg.toArray.all (·.oneCell') = true) := by rw [hrg]; exact all_oneCell_toArray (regC_all HAL.out)
      have N8 := Lib.hid hN8
      have C8 := Lib.hid hC8
      have HRGV := Lib.hid hrg
      rw [← hrg]
      clear hrg hN8 hC8 hb8 HRG I8
      have hmkA : ∀ W : World, (Instr.makeSlice 63 (.int .i64 (U : Int)) (.int .i64 (U : Int))).run Tryz.prog W = .ok (.slice (some ⟨W.heap.size, 0, none⟩) U U) (W.alloc (.cells (cellsT U (fun _ => false)).toArray 4)) := fun W => by
        have := run_make_row' (P := Tryz.prog) 63 4 (.bool false) 1 Tryz.underlying63 (by kernel_rfl) rfl .i64 .i64 U (by omega) (by omega) W
        rwa [made_bools] at this
      have HMK := Lib.hid hmkA
      clear hmkA
      go_wp2_with (first
        | ((first | rw [zero39] | skip); refine wpList_store_row rfl 37 (.tmp 26) (.tmp 138) rfl w8.heap.size rg.toArray rfl rfl 37 zReg (Blk.new w8 _ _) HRI.out HRO.out HRA.out ?_; obtain ⟨w9, hV⟩ : ∃ W, W = (w8.alloc (.cells zReg 37)).setRow w8.heap.size rg.toArray := ⟨_, rfl⟩; rw [← hV]; obtain ⟨gb, nb⟩ := keybox2_ _ _ _ _ hV; have X9 := Lib.hid nb; have K9 := Lib.hid (bel_on K8.out gb); have F9 := Lib.hid (bel_on F8.out gb); have I9 := Lib.hid (I8'.out.below gb); have N9 := Lib.hid (N8.out.below gb); have C9 := Lib.hid (C8.out.below gb); obtain ⟨c0, -, -⟩ := HC0.out _ K9.out; obtain ⟨w9b, hw9b⟩ : ∃ W, W = w9.alloc (.cells (cellsT U (fun _ => false)).toArray 4) := ⟨_, rfl⟩; have hmk : (Instr.makeSlice 63 (.int .i64 (U : Int)) (.int .i64 (U : Int))).run Tryz.prog w9 = .ok (.slice (some ⟨w9.heap.size, 0, none⟩) U U) w9b := (by rw [hw9b]; exact HMK.out w9); have HW9B := Lib.hid hw9b; clear hV gb nb hw9b))
      --MARK 10
      have B9 : Hid (Blk w9b w9.heap.size 4 (cellsT U (fun x => decide (x < 0) && guiltB hs t m nd x)).toArray) := by
        unfold Hid
        rw [HW9B.out, cellsT_congr (q := fun _ => false) (fun i _ => by simp)]
        exact Blk.new _ _ _
      have E9 : Hid (Below w9.heap.size w9 w9b) := by unfold Hid; rw [HW9B.out]; exact alloc_bel _ _
      have HKW : Hid (∀ W, Below w9.heap.size w9 W → Below w.heap.size w W) := fun W hW => bel_on K9.out hW
      have HG9 : Hid (∀ W, Below w9.heap.size w9 W → Blk W w8.heap.size 37 rg.toArray) := fun W hW => X9.out.below' hW
      obtain ⟨Zd, hZd⟩ : ∃ q, dropP (some ⟨gz, 0, none⟩) n zc = q := ⟨_, rfl⟩
      obtain ⟨zd, hzd⟩ : ∃ q, zc - n = q := ⟨_, rfl⟩
      have hNm : N - n = m := by have := HNN.out; omega
      have HSF : Hid (∀ W, (Instr.slice 31 (.slice (some ⟨gz, 0, none⟩) N zc) (some (.int .i64 (n : Int))) none none).run Tryz.prog W = .ok (.slice Zd m zd) W) := fun W => by
        have := slice_bytes_from W (some ⟨gz, 0, none⟩) N zc n (by have := HNN.out; omega)
        rw [hZd, hzd, hNm] at this
        exact this
      have HBT : Hid (∀ W, Below w9.heap.size w9 W → BR W Zd zd t) := fun W hW => by
        have := (HBZ.out W (bel_on F9.out hW)).drop n HZN.out
        rw [hZd, hzd, HTD.out] at this
        exact this
      have HACU0 : Hid (∀ u, u < U → ∃ X xc pm, (pathS (comsF K hs U) u).length = pm ∧ (∀ W, Below w.heap.size w W → W.cell? ⟨bA, oA + u, none⟩ = some (.slice X m xc) ∧ BR W X xc (hs.getD u [])) ∧ (∀ W, Below w9.heap.size w9 W → Calls Tryz.prog 10 #[.agg rg.toArray, .int .i64 (u : Int), .slice Zd m zd, .int .i64 (nd : Int)] W fun e w' => (∃ A' c', e = .returned (.tuple #[.agg (caseC (ownV K hs U u t nd) A' pm c' Zd m zd X m xc).toArray, .bool true]) ∧ CaseOK w' (ownV K hs U u t nd) A' pm c' Zd m zd X m xc ∧ OK16 W.heap.size w' A' c' (pathS (comsF K hs U) u)) ∧ Below W.heap.size W w')) := fun u hu => by
        have hR0 := HRR0.out _ K0.out
        obtain ⟨b', off', r, e, hb, hr, hcr, hRr⟩ := hR0.at_ (i := u) (by rw [HN0.out]; exact hu)
        injection e with e
        injection e with e1 e2
        subst e1 e2
        have hrl : hs.getD u [] = r.l := by rw [← HSH.out]; exact row_l hr
        have hl : r.l.length = m := by rw [← hrl]; exact (HHX.out u hu).2
        rw [hl] at hcr
        refine ⟨r.A, r.c, (pathS (comsF K hs U) u).length, rfl, fun W hW => ⟨cell_up hW hcr, by rw [hrl]; exact hRr.below hW⟩, fun W hW => ?_⟩
        have := accused_own2 (cl := s.cs) (K := K) (hs := hs) (n := U) (u := u) (y := t) (need := (nd : Int)) (r := r) (N := Na) (a := a) (C := Cc) (b := b) (Y := Zd) (ny := m) (d := zd) (W := W) (m := (pathS (comsF K hs U) u).length) H20.out HAL.out HSH.out HN0.out hu (by omega) HKL.out (HRR0.out W (HKW.out W hW)) (N9.out.below hW) (C9.out.below hW) hr HTM.out (HBT.out W hW) rfl
        rw [hl, ← HRGV.out] at this
        exact this
      have HJU0 : Hid (∀ u, u < U → judgeS (ownV K hs U u t nd) = (if guiltB hs t m nd u = true then 3 else 4, 0)) := fun u hu => by
        obtain ⟨h1, h2⟩ := HHX.out u hu
        have := judge_own (K := K) (hs := hs) (n := U) (u := u) (y := t) (need := (nd : Int)) hu (by omega) h1 (by rw [h2]; exact HTC.out) (by omega) (by rw [HTM.out]; have := HND.out; omega)
        rw [this, HTM.out]
        unfold guiltB
        simp
      have HAG0 : Hid (∀ u, u < U → ∀ W X xc, BR W X xc (hs.getD u []) → Below w9.heap.size w9 W → Calls Tryz.prog 19 #[.slice X m xc, .slice Zd m zd] W fun e w' => e = .returned (.int .i64 (agreeN (hs.getD u []) t m : Int)) ∧ Below W.heap.size W w') := fun u hu W X xc hX hW => agreeing_any (hs.getD u []) t X xc Zd zd W (HHX.out u hu).2 HTM.out (by have := HBN.out; omega) hX (HBT.out W hW)
      have HZ55 : Hid ((#[.int .u8 0, .int .u8 0, .int .u8 0, .int .u8 0, .int .u8 0, .int .u8 0, .int .u8 0, .int .u8 0, .int .u8 0, .int .u8 0, .int .u8 0, .int .u8 0, .int .u8 0, .int .u8 0, .int .u8 0, .int .u8 0, .int .u8 0, .int .u8 0, .int .u8 0, .int .u8 0, .int .u8 0, .int .u8 0, .int .u8 0, .int .u8 0, .int .u8 0, .int .u8 0, .int .u8 0, .int .u8 0, .int .u8 0, .int .u8 0, .int .u8 0, .int .u8 0, .int .i64 0, .int .i64 0, .slice none 0 0, .slice none 0 0, .int .i64 0, .bool false, .slice none 0 0, .int .u8 0, .int .u8 0, .int .u8 0, .int .u8 0, .int .u8 0, .int .u8 0, .int .u8 0, .int .u8 0, .int .u8 0, .int .u8 0, .int .u8 0, .int .u8 0, .int .u8 0, .int .u8 0, .int .u8 0, .int .u8 0] : Array Value) = zCase) := zero55_
      clear hZd hzd hNm hmk HMK
      go_loopw [29] (fun vu wr => ∃ u : Nat, u ≤ U ∧ vu = .int .i64 (u : Int) ∧ Hid (Blk wr w9.heap.size 4 (cellsT U (fun x => decide (x < u) && guiltB hs t m nd x)).toArray) ∧ Below w9.heap.size w9 wr) (fun vu _ => U - (intOf vu).toNat)
      case atStart => exact ⟨0, by omega, rfl, B9.out, E9.out⟩
      case round =>
        obtain ⟨u, hu, rfl, BB, hbel2⟩ := hrel
        obtain ⟨wr2, hwr2⟩ : ∃ W, W = wr := ⟨_, rfl⟩
        subst hwr2
        have EB : Hid (Below w9.heap.size w9 wr2) := hbel2
        obtain ⟨c0, -, -⟩ := HC0.out _ (HKW.out _ EB.out)
        clear hbel2
        by_cases huU : u < U
        · have hui : (u : Int) < U := by omega
          have hu0' : (0 : Int) ≤ u := by omega
          obtain ⟨X, xc, pm, hpm, hrow, hacc⟩ := HACU0.out u huU
          have HPM := Lib.hid hpm
          have HHU := Lib.hid (HHX.out u huU)
          have HRW := Lib.hid hrow
          have HACU := Lib.hid hacc
          have HJU := Lib.hid (HJU0.out u huU)
          have HAG : Hid (∀ W, Below w9.heap.size w9 W → Calls Tryz.prog 19 #[.slice X m xc, .slice Zd m zd] W fun e w' => e = .returned (.int .i64 (agreeN (hs.getD u []) t m : Int)) ∧ Below W.heap.size W w') := fun W hW => HAG0.out u huU W X xc (hrow W (HKW.out W hW)).2 hW
          obtain ⟨ag, hagq⟩ : ∃ q, agreeN (hs.getD u []) t m = q := ⟨_, rfl⟩
          rw [hagq] at HAG
          have HAGQ := Lib.hid hagq
          have huU' : u < U := huU
          clear hagq
          clear hrow hacc huU hpm
          go_wp2_with fail
          --MARK 11
          refine wp_region_noPanic ?_
          refine wp_region_held_drew (S := fun W' => Below w9.heap.size w9 W') (by kernel_rfl) EB.out.drew (fun hS => ?_)
          refine hd_load 0 (w8.heap.size) (0) (rg) _ _ rfl rfl rfl (by kernel_rfl) (by kernel_rfl) (by kernel_rfl) (fun _ _ _ h => h) rfl (fun w hw => (HG9.out _ hw).range) Tryz.underlying37 rfl (HRI.out) hS ?_
          simp only [List.getElem_toArray, List.getElem_cons_succ, List.getElem_cons_zero, Act.put, List.setIfInBounds_toArray, List.set_cons_zero, List.set_cons_succ]
          refine hd_take 1 (_) rfl rfl (by kernel_rfl) (by kernel_rfl) (by kernel_rfl) (fun _ _ _ h => h) (fun w hw => by go_simp <;> rfl) hS ?_
          simp only [List.getElem_toArray, List.getElem_cons_succ, List.getElem_cons_zero, Act.put, List.setIfInBounds_toArray, List.set_cons_zero, List.set_cons_succ]
          refine hd_take 2 (_) rfl rfl (by kernel_rfl) (by kernel_rfl) (by kernel_rfl) (fun _ _ _ h => h) (fun w hw => by go_simp <;> rfl) hS ?_
          simp only [List.getElem_toArray, List.getElem_cons_succ, List.getElem_cons_zero, Act.put, List.setIfInBounds_toArray, List.set_cons_zero, List.set_cons_succ]
          refine hd_take 3 (_) rfl rfl (by kernel_rfl) (by kernel_rfl) (by kernel_rfl) (fun _ _ _ h => h) (fun w hw => by go_simp <;> rfl) hS ?_
          simp only [List.getElem_toArray, List.getElem_cons_succ, List.getElem_cons_zero, Act.put, List.setIfInBounds_toArray, List.set_cons_zero, List.set_cons_succ]
          refine hd_take 4 (.slice Zd m zd) rfl rfl (by kernel_rfl) (by kernel_rfl) (by kernel_rfl) (fun _ _ _ h => h) (fun w hw => by have hx := HSF.out w; simp [execOp, Act.eval, Act.put, Sem.run_bind, Instr.sliceAt, hx]) hS ?_
          simp only [List.getElem_toArray, List.getElem_cons_succ, List.getElem_cons_zero, Act.put, List.setIfInBounds_toArray, List.set_cons_zero, List.set_cons_succ]
          refine hd_take 5 (_) rfl rfl (by kernel_rfl) (by kernel_rfl) (by kernel_rfl) (fun _ _ _ h => h) (fun w hw => by go_simp <;> rfl) hS ?_
          simp only [List.getElem_toArray, List.getElem_cons_succ, List.getElem_cons_zero, Act.put, List.setIfInBounds_toArray, List.set_cons_zero, List.set_cons_succ]
          have hgx0 : w9.heap.size < wr2.heap.size := BB.out.lt
          refine hd_two 6 10 (by kernel_rfl) (op_call 10 #[.agg rg.toArray, .int .i64 (u : Int), .slice Zd m zd, .int .i64 (nd : Int)] rfl rfl (by go_simp <;> rfl) ((HACU.out _ hS).mono ?_)) (op_run (.pointer (some ⟨wr2.heap.size, 0, none⟩)) (wr2.drew.alloc (.cells zCase 43)) rfl rfl (by rw [← HZ55.out]; go_simp) ⟨bel_on hS (alloc_bel _ _), ?_⟩)
          · rintro e w10 ⟨⟨A', c', rfl, hcc, -⟩, hb10⟩
            have E10 : Below w9.heap.size w9 w10 := bel_on hS hb10
            have CC := Lib.hid hcc
            refine ⟨_, rfl, E10, ?_⟩
            simp only [List.getElem_toArray, List.getElem_cons_succ, List.getElem_cons_zero, Act.put, List.setIfInBounds_toArray, List.set_cons_zero, List.set_cons_succ]
            refine hd_take 7 (_) rfl rfl (by kernel_rfl) (by kernel_rfl) (by kernel_rfl) (fun _ _ _ h => h) (fun w hw => by go_simp <;> rfl) E10 ?_
            simp only [List.getElem_toArray, List.getElem_cons_succ, List.getElem_cons_zero, Act.put, List.setIfInBounds_toArray, List.set_cons_zero, List.set_cons_succ]
            refine hd_take 8 (_) rfl rfl (by kernel_rfl) (by kernel_rfl) (by kernel_rfl) (fun _ _ _ h => h) (fun w hw => by go_simp <;> rfl) E10 ?_
            simp only [List.getElem_toArray, List.getElem_cons_succ, List.getElem_cons_zero, Act.put, List.setIfInBounds_toArray, List.set_cons_zero, List.set_cons_succ]
            refine hd_take 9 (_) rfl rfl (by kernel_rfl) (by kernel_rfl) (by kernel_rfl) (fun _ _ _ h => h) (fun w hw => by go_simp <;> rfl) E10 ?_
            simp only [List.getElem_toArray, List.getElem_cons_succ, List.getElem_cons_zero, Act.put, List.setIfInBounds_toArray, List.set_cons_zero, List.set_cons_succ]
            have E11 : Below w9.heap.size w9 (w10.alloc (.cells zCase 43)) := bel_on E10 (alloc_bel _ _)
            refine hd_sole 10 (by kernel_rfl) (op_run (.pointer (some ⟨w10.heap.size, 0, none⟩)) (w10.alloc (.cells zCase 43)) rfl rfl (by rw [← HZ55.out]; go_simp) ⟨E11, ?_⟩)
            simp only [List.getElem_toArray, List.getElem_cons_succ, List.getElem_cons_zero, Act.put, List.setIfInBounds_toArray, List.set_cons_zero, List.set_cons_succ]
            have QZ : Blk (w10.alloc (.cells zCase 43)) w10.heap.size 43 zCase := Blk.new w10 _ _
            have hgx : w9.heap.size < w10.heap.size := Nat.lt_of_lt_of_le hgx0 hb10.size
            have BBZ : Blk (w10.alloc (.cells zCase 43)) w9.heap.size 4 (cellsT U (fun x => decide (x < u) && guiltB hs t m nd x)).toArray := (Blk.below' (w := wr2.drew) BB.out hb10).alloc _
            have CCO : ∀ W, W = (w10.alloc (.cells zCase 43)).setRow w10.heap.size (caseC (ownV K hs U u t nd) A' pm c' Zd m zd X m xc).toArray → CaseOK W (ownV K hs U u t nd) A' pm c' Zd m zd X m xc := fun W hW => hcc.below (by rw [hW]; exact below_setRow (alloc_bel _ _) (Nat.le_refl _) _)
            clear hb10 hcc
            --MARK 13
            have E12 : Hid (Below w9.heap.size w9 ((w10.alloc (.cells zCase 43)).setRow w10.heap.size (caseC (ownV K hs U u t nd) A' pm c' Zd m zd X m xc).toArray)) := below_setRow E11 (Nat.le_of_lt hgx) _
            refine hd_store 11 (w10.heap.size) (caseC (ownV K hs U u t nd) A' pm c' Zd m zd X m xc).toArray _ _ _ rfl rfl rfl (by kernel_rfl) rfl rfl QZ (case_info CC.out.r16 CC.out.c16 CC.out.n16) (zCase_old CC.out.r16 CC.out.c16 CC.out.n16) (by simpa using caseC_all _ _ _ _ _ _ _ _ _ _) E12.out ?_
            simp only [List.getElem_toArray, List.getElem_cons_succ, List.getElem_cons_zero, Act.put, List.setIfInBounds_toArray, List.set_cons_zero, List.set_cons_succ]
            refine hd_take 12 (_) rfl rfl (by kernel_rfl) (by kernel_rfl) (by kernel_rfl) (fun _ _ _ h => h) (fun w hw => by go_simp <;> rfl) E12.out ?_
            simp only [List.getElem_toArray, List.getElem_cons_succ, List.getElem_cons_zero, Act.put, List.setIfInBounds_toArray, List.set_cons_zero, List.set_cons_succ]
            refine wpAnyH_done (by kernel_rfl) (NoPanic.normal ?_) _
            obtain ⟨w12, hw12⟩ : ∃ W, W = (w10.alloc (.cells zCase 43)).setRow w10.heap.size (caseC (ownV K hs U u t nd) A' pm c' Zd m zd X m xc).toArray := ⟨_, rfl⟩
            rw [← hw12] at E12 ⊢
            have Q12 : Hid (Blk w12 w10.heap.size 43 (caseC (ownV K hs U u t nd) A' pm c' Zd m zd X m xc).toArray) := by unfold Hid; rw [hw12]; exact QZ.setRow _
            have BB12 : Hid (Blk w12 w9.heap.size 4 (cellsT U (fun x => decide (x < u) && guiltB hs t m nd x)).toArray) := by unfold Hid; rw [hw12]; exact (setRow_other _ _ _ _ (Nat.ne_of_lt hgx)).trans BBZ
            have C12 : Hid (CaseOK w12 (ownV K hs U u t nd) A' pm c' Zd m zd X m xc) := CCO w12 hw12
            clear hS hw12 QZ BBZ CCO
            --MARK 14
            go_wp2_with (first | (refine wpList_load_row rfl 43 (.tmp 30) rfl w10.heap.size rfl 43 (caseC (ownV K hs U u t nd) A' pm c' Zd m zd X m xc).toArray (0, 0) _ Q12.out Tryz.underlying43 rfl (case_info C12.out.r16 C12.out.c16 C12.out.n16) ?_))
            refine (Judge_any (ownV K hs U u t nd) A' pm c' Zd m zd X m xc _ C12.out (HT.out.below_ (HKW.out _ E12.out))).mono ?_
            rw [HJU.out]
            cases hG : guiltB hs t m nd u
            · have HGU : Hid (guiltB hs t m nd u = false) := hG
              rw [if_neg (by simp)]
              rintro e w13 ⟨rfl, hb13⟩
              have E13 : Hid (Below w9.heap.size w9 w13) := bel_on E12.out hb13
              have BB13 := Lib.hid (BB12.out.below' hb13)
              have hag : ¬ (nd : Int) ≤ (ag : Int) := by have h1 := of_decide_eq_false hG; have h2 := HAGQ.out; omega
              have HPUT : Hid (∀ x, x < U → (if x = u then false else (decide (x < u) && guiltB hs t m nd x)) = (decide (x < u + 1) && guiltB hs t m nd x)) := fun x hx => by
                by_cases e : x = u
                · subst e; rw [if_pos rfl, hG]; simp
                · rw [if_neg e]; have : (x < u) = (x < u + 1) := by rw [eq_iff_iff]; omega
                  rw [decide_eq_decide.2 (by rw [this])]
              clear hb13 hG
              go_wp2_with fail
              refine wp_region_noPanic ?_
              refine wp_region_held_drew (S := fun W' => Below w9.heap.size w9 W') (by kernel_rfl) E13.out.drew (fun hS => ?_)
              refine hd_take 0 (_) rfl rfl (by kernel_rfl) (by kernel_rfl) (by kernel_rfl) (fun _ _ _ h => h) (fun w hw => by go_simp <;> rfl) hS ?_
              simp only [List.getElem_toArray, List.getElem_cons_succ, List.getElem_cons_zero, Act.put, List.setIfInBounds_toArray, List.set_cons_zero, List.set_cons_succ]
              refine hd_take 1 (_) rfl rfl (by kernel_rfl) (by kernel_rfl) (by kernel_rfl) (fun _ _ _ h => h) (fun w hw => by go_simp <;> rfl) hS ?_
              simp only [List.getElem_toArray, List.getElem_cons_succ, List.getElem_cons_zero, Act.put, List.setIfInBounds_toArray, List.set_cons_zero, List.set_cons_succ]
              refine hd_take 2 (_) rfl rfl (by kernel_rfl) (by kernel_rfl) (by kernel_rfl) (fun _ _ _ h => h) (fun w hw => by go_simp <;> rfl) hS ?_
              simp only [List.getElem_toArray, List.getElem_cons_succ, List.getElem_cons_zero, Act.put, List.setIfInBounds_toArray, List.set_cons_zero, List.set_cons_succ]
              refine hd_take 3 (_) rfl rfl (by kernel_rfl) (by kernel_rfl) (by kernel_rfl) (fun _ _ _ h => h) (fun w hw => by go_simp <;> rfl) hS ?_
              simp only [List.getElem_toArray, List.getElem_cons_succ, List.getElem_cons_zero, Act.put, List.setIfInBounds_toArray, List.set_cons_zero, List.set_cons_succ]
              refine hd_take 4 (_) rfl rfl (by kernel_rfl) (by kernel_rfl) (by kernel_rfl) (fun _ _ _ h => h) (fun w hw => by go_simp <;> rfl) hS ?_
              simp only [List.getElem_toArray, List.getElem_cons_succ, List.getElem_cons_zero, Act.put, List.setIfInBounds_toArray, List.set_cons_zero, List.set_cons_succ]
              refine hd_take 5 (.slice X m xc) rfl rfl (by kernel_rfl) (by kernel_rfl) (by kernel_rfl) (fun _ _ _ h => h) (fun w hw => by have hx := (HRW.out _ (HKW.out _ hw)).1; simp [go_sem, hx]) hS ?_
              simp only [List.getElem_toArray, List.getElem_cons_succ, List.getElem_cons_zero, Act.put, List.setIfInBounds_toArray, List.set_cons_zero, List.set_cons_succ]
              refine hd_take 6 (_) rfl rfl (by kernel_rfl) (by kernel_rfl) (by kernel_rfl) (fun _ _ _ h => h) (fun w hw => by go_simp <;> rfl) hS ?_
              simp only [List.getElem_toArray, List.getElem_cons_succ, List.getElem_cons_zero, Act.put, List.setIfInBounds_toArray, List.set_cons_zero, List.set_cons_succ]
              refine hd_take 7 (_) rfl rfl (by kernel_rfl) (by kernel_rfl) (by kernel_rfl) (fun _ _ _ h => h) (fun w hw => by go_simp <;> rfl) hS ?_
              simp only [List.getElem_toArray, List.getElem_cons_succ, List.getElem_cons_zero, Act.put, List.setIfInBounds_toArray, List.set_cons_zero, List.set_cons_succ]
              refine hd_take 8 (.slice Zd m zd) rfl rfl (by kernel_rfl) (by kernel_rfl) (by kernel_rfl) (fun _ _ _ h => h) (fun w hw => by have hx := HSF.out w; simp [execOp, Act.eval, Act.put, Sem.run_bind, Instr.sliceAt, hx]) hS ?_
              simp only [List.getElem_toArray, List.getElem_cons_succ, List.getElem_cons_zero, Act.put, List.setIfInBounds_toArray, List.set_cons_zero, List.set_cons_succ]
              refine hd_take 10 (_) rfl rfl (by kernel_rfl) (by kernel_rfl) (by kernel_rfl) (fun _ _ _ h => h) (fun w hw => by go_simp <;> rfl) hS ?_
              simp only [List.getElem_toArray, List.getElem_cons_succ, List.getElem_cons_zero, Act.put, List.setIfInBounds_toArray, List.set_cons_zero, List.set_cons_succ]
              refine hd_calls 9 19 #[.slice X m xc, .slice Zd m zd] rfl rfl (by kernel_rfl) (by go_simp <;> rfl) ?_
              refine (HAG.out _ hS).mono ?_
              rintro e w14 ⟨rfl, hb14⟩
              have E14 : Hid (Below w9.heap.size w9 w14) := bel_on E13.out.drew hb14
              have BB14 : Hid (Blk w14 w9.heap.size 4 (cellsT U (fun x => decide (x < u) && guiltB hs t m nd x)).toArray) := Blk.below' (w := w13.drew) BB13.out hb14
              clear hb14
              refine ⟨_, rfl, E14.out, ?_⟩
              simp only [List.getElem_toArray, List.getElem_cons_succ, List.getElem_cons_zero, Act.put, List.setIfInBounds_toArray, List.set_cons_zero, List.set_cons_succ]
              refine hd_take 11 (.bool false) rfl rfl (by kernel_rfl) (by kernel_rfl) (by kernel_rfl) (fun _ _ _ h => h) (fun w hw => by simp [go_sem]; omega) E14.out ?_
              simp only [List.getElem_toArray, List.getElem_cons_succ, List.getElem_cons_zero, Act.put, List.setIfInBounds_toArray, List.set_cons_zero, List.set_cons_succ]
              refine hd_take 12 (_) rfl rfl (by kernel_rfl) (by kernel_rfl) (by kernel_rfl) (fun _ _ _ h => h) (fun w hw => by go_simp <;> rfl) E14.out ?_
              simp only [List.getElem_toArray, List.getElem_cons_succ, List.getElem_cons_zero, Act.put, List.setIfInBounds_toArray, List.set_cons_zero, List.set_cons_succ]
              have k1 : w14.cell? ⟨w9.heap.size, u, none⟩ = some (.bool (decide (u < u) && guiltB hs t m nd u)) := (BB14.out.cell u).trans (cellsT_get huU')
              have k2 := BB14.out.frozen u
              have E15 : Hid (Below w9.heap.size w9 (w14.setCell ⟨w9.heap.size, u, none⟩ (.bool false))) := E14.out.setCell (p := ⟨w9.heap.size, u, none⟩) (Nat.le_refl _) _
              have BB15 : Hid (Blk (w14.setCell ⟨w9.heap.size, u, none⟩ (.bool false)) w9.heap.size 4 (cellsT U (fun x => decide (x < u + 1) && guiltB hs t m nd x)).toArray) := by
                have := BB14.out.set_ u (.bool false)
                rw [cellsT_put huU'] at this
                unfold Hid
                rw [← cellsT_congr (HPUT.out)]
                exact this
              refine hd_sole 13 (by kernel_rfl) (op_skip (w14.setCell ⟨w9.heap.size, u, none⟩ (.bool false)) rfl rfl (by simp [go_sem, k1, k2]) ⟨E15.out, ?_⟩)
              simp only [List.getElem_toArray, List.getElem_cons_succ, List.getElem_cons_zero, Act.put, List.setIfInBounds_toArray, List.set_cons_zero, List.set_cons_succ]
              refine wpAnyH_done (by kernel_rfl) (NoPanic.normal ?_) _
              obtain ⟨w15, hw15⟩ : ∃ W, W = w14.setCell ⟨w9.heap.size, u, none⟩ (.bool false) := ⟨_, rfl⟩
              rw [← hw15] at E15 BB15 ⊢
              have k3 : w15.cell? ⟨w9.heap.size, u, none⟩ = some (.bool false) := by have := (BB15.out.cell u).trans (cellsT_get huU'); rw [this]; simp [HGU.out]
              clear hS k1 k2 hw15 E14 BB14
              go_wp2_with fail
              go_roundw
              case rel => exact ⟨u + 1, by omega, by go_num, BB15.out, E15.out⟩
              case measure => simp [intOf]; omega
            · have HGU : Hid (guiltB hs t m nd u = true) := hG
              rw [if_pos rfl]
              rintro e w13 ⟨rfl, hb13⟩
              have E13 : Hid (Below w9.heap.size w9 w13) := bel_on E12.out hb13
              have BB13 := Lib.hid (BB12.out.below' hb13)
              have hag : (nd : Int) ≤ (ag : Int) := by have h1 := of_decide_eq_true hG; have h2 := HAGQ.out; omega
              have HPUT : Hid (∀ x, x < U → (if x = u then true else (decide (x < u) && guiltB hs t m nd x)) = (decide (x < u + 1) && guiltB hs t m nd x)) := fun x hx => by
                by_cases e : x = u
                · subst e; rw [if_pos rfl, hG]; simp
                · rw [if_neg e]; have : (x < u) = (x < u + 1) := by rw [eq_iff_iff]; omega
                  rw [decide_eq_decide.2 (by rw [this])]
              clear hb13 hG
              go_wp2_with fail
              refine wp_region_noPanic ?_
              refine wp_region_held_drew (S := fun W' => Below w9.heap.size w9 W') (by kernel_rfl) E13.out.drew (fun hS => ?_)
              refine hd_take 0 (_) rfl rfl (by kernel_rfl) (by kernel_rfl) (by kernel_rfl) (fun _ _ _ h => h) (fun w hw => by go_simp <;> rfl) hS ?_
              simp only [List.getElem_toArray, List.getElem_cons_succ, List.getElem_cons_zero, Act.put, List.setIfInBounds_toArray, List.set_cons_zero, List.set_cons_succ]
              refine hd_take 1 (_) rfl rfl (by kernel_rfl) (by kernel_rfl) (by kernel_rfl) (fun _ _ _ h => h) (fun w hw => by go_simp <;> rfl) hS ?_
              simp only [List.getElem_toArray, List.getElem_cons_succ, List.getElem_cons_zero, Act.put, List.setIfInBounds_toArray, List.set_cons_zero, List.set_cons_succ]
              refine hd_take 2 (_) rfl rfl (by kernel_rfl) (by kernel_rfl) (by kernel_rfl) (fun _ _ _ h => h) (fun w hw => by go_simp <;> rfl) hS ?_
              simp only [List.getElem_toArray, List.getElem_cons_succ, List.getElem_cons_zero, Act.put, List.setIfInBounds_toArray, List.set_cons_zero, List.set_cons_succ]
              refine hd_take 3 (_) rfl rfl (by kernel_rfl) (by kernel_rfl) (by kernel_rfl) (fun _ _ _ h => h) (fun w hw => by go_simp <;> rfl) hS ?_
              simp only [List.getElem_toArray, List.getElem_cons_succ, List.getElem_cons_zero, Act.put, List.setIfInBounds_toArray, List.set_cons_zero, List.set_cons_succ]
              refine hd_take 4 (_) rfl rfl (by kernel_rfl) (by kernel_rfl) (by kernel_rfl) (fun _ _ _ h => h) (fun w hw => by go_simp <;> rfl) hS ?_
              simp only [List.getElem_toArray, List.getElem_cons_succ, List.getElem_cons_zero, Act.put, List.setIfInBounds_toArray, List.set_cons_zero, List.set_cons_succ]
              refine hd_take 5 (.slice X m xc) rfl rfl (by kernel_rfl) (by kernel_rfl) (by kernel_rfl) (fun _ _ _ h => h) (fun w hw => by have hx := (HRW.out _ (HKW.out _ hw)).1; simp [go_sem, hx]) hS ?_
              simp only [List.getElem_toArray, List.getElem_cons_succ, List.getElem_cons_zero, Act.put, List.setIfInBounds_toArray, List.set_cons_zero, List.set_cons_succ]
              refine hd_take 6 (_) rfl rfl (by kernel_rfl) (by kernel_rfl) (by kernel_rfl) (fun _ _ _ h => h) (fun w hw => by go_simp <;> rfl) hS ?_
              simp only [List.getElem_toArray, List.getElem_cons_succ, List.getElem_cons_zero, Act.put, List.setIfInBounds_toArray, List.set_cons_zero, List.set_cons_succ]
              refine hd_take 7 (_) rfl rfl (by kernel_rfl) (by kernel_rfl) (by kernel_rfl) (fun _ _ _ h => h) (fun w hw => by go_simp <;> rfl) hS ?_
              simp only [List.getElem_toArray, List.getElem_cons_succ, List.getElem_cons_zero, Act.put, List.setIfInBounds_toArray, List.set_cons_zero, List.set_cons_succ]
              refine hd_take 8 (.slice Zd m zd) rfl rfl (by kernel_rfl) (by kernel_rfl) (by kernel_rfl) (fun _ _ _ h => h) (fun w hw => by have hx := HSF.out w; simp [execOp, Act.eval, Act.put, Sem.run_bind, Instr.sliceAt, hx]) hS ?_
              simp only [List.getElem_toArray, List.getElem_cons_succ, List.getElem_cons_zero, Act.put, List.setIfInBounds_toArray, List.set_cons_zero, List.set_cons_succ]
              refine hd_take 10 (_) rfl rfl (by kernel_rfl) (by kernel_rfl) (by kernel_rfl) (fun _ _ _ h => h) (fun w hw => by go_simp <;> rfl) hS ?_
              simp only [List.getElem_toArray, List.getElem_cons_succ, List.getElem_cons_zero, Act.put, List.setIfInBounds_toArray, List.set_cons_zero, List.set_cons_succ]
              refine hd_calls 9 19 #[.slice X m xc, .slice Zd m zd] rfl rfl (by kernel_rfl) (by go_simp <;> rfl) ?_
              refine (HAG.out _ hS).mono ?_
              rintro e w14 ⟨rfl, hb14⟩
              have E14 : Hid (Below w9.heap.size w9 w14) := bel_on E13.out.drew hb14
              have BB14 : Hid (Blk w14 w9.heap.size 4 (cellsT U (fun x => decide (x < u) && guiltB hs t m nd x)).toArray) := Blk.below' (w := w13.drew) BB13.out hb14
              clear hb14
              refine ⟨_, rfl, E14.out, ?_⟩
              simp only [List.getElem_toArray, List.getElem_cons_succ, List.getElem_cons_zero, Act.put, List.setIfInBounds_toArray, List.set_cons_zero, List.set_cons_succ]
              refine hd_take 11 (.bool true) rfl rfl (by kernel_rfl) (by kernel_rfl) (by kernel_rfl) (fun _ _ _ h => h) (fun w hw => by simp [go_sem]; omega) E14.out ?_
              simp only [List.getElem_toArray, List.getElem_cons_succ, List.getElem_cons_zero, Act.put, List.setIfInBounds_toArray, List.set_cons_zero, List.set_cons_succ]
              refine hd_take 12 (_) rfl rfl (by kernel_rfl) (by kernel_rfl) (by kernel_rfl) (fun _ _ _ h => h) (fun w hw => by go_simp <;> rfl) E14.out ?_
              simp only [List.getElem_toArray, List.getElem_cons_succ, List.getElem_cons_zero, Act.put, List.setIfInBounds_toArray, List.set_cons_zero, List.set_cons_succ]
              have k1 : w14.cell? ⟨w9.heap.size, u, none⟩ = some (.bool (decide (u < u) && guiltB hs t m nd u)) := (BB14.out.cell u).trans (cellsT_get huU')
              have k2 := BB14.out.frozen u
              have E15 : Hid (Below w9.heap.size w9 (w14.setCell ⟨w9.heap.size, u, none⟩ (.bool true))) := E14.out.setCell (p := ⟨w9.heap.size, u, none⟩) (Nat.le_refl _) _
              have BB15 : Hid (Blk (w14.setCell ⟨w9.heap.size, u, none⟩ (.bool true)) w9.heap.size 4 (cellsT U (fun x => decide (x < u + 1) && guiltB hs t m nd x)).toArray) := by
                have := BB14.out.set_ u (.bool true)
                rw [cellsT_put huU'] at this
                unfold Hid
                rw [← cellsT_congr (HPUT.out)]
                exact this
              refine hd_sole 13 (by kernel_rfl) (op_skip (w14.setCell ⟨w9.heap.size, u, none⟩ (.bool true)) rfl rfl (by simp [go_sem, k1, k2]) ⟨E15.out, ?_⟩)
              simp only [List.getElem_toArray, List.getElem_cons_succ, List.getElem_cons_zero, Act.put, List.setIfInBounds_toArray, List.set_cons_zero, List.set_cons_succ]
              refine wpAnyH_done (by kernel_rfl) (NoPanic.normal ?_) _
              obtain ⟨w15, hw15⟩ : ∃ W, W = w14.setCell ⟨w9.heap.size, u, none⟩ (.bool true) := ⟨_, rfl⟩
              rw [← hw15] at E15 BB15 ⊢
              have k3 : w15.cell? ⟨w9.heap.size, u, none⟩ = some (.bool true) := by have := (BB15.out.cell u).trans (cellsT_get huU'); rw [this]; simp [HGU.out]
              clear hS k1 k2 hw15 E14 BB14
              go_wp2_with fail
              go_roundw
              case rel => exact ⟨u + 1, by omega, by go_num, BB15.out, E15.out⟩
              case measure => simp [intOf]; omega
          · simp only [List.getElem_toArray, List.getElem_cons_succ, List.getElem_cons_zero, Act.put, List.setIfInBounds_toArray, List.set_cons_zero, List.set_cons_succ]
            have E10 : Below w9.heap.size w9 (wr2.drew.alloc (.cells zCase 43)) := bel_on hS (alloc_bel _ _)
            refine hd_calls 6 10 #[.agg rg.toArray, .int .i64 (u : Int), .slice Zd m zd, .int .i64 (nd : Int)] rfl rfl (by kernel_rfl) (by go_simp <;> rfl) ?_
            refine (HACU.out _ E10).mono ?_
            rintro e w11 ⟨⟨A', c', rfl, hcc, hok11⟩, hb11⟩
            have E11 : Below w9.heap.size w9 w11 := bel_on E10 hb11
            have CC := Lib.hid hcc
            refine ⟨_, rfl, E11, ?_⟩
            simp only [List.getElem_toArray, List.getElem_cons_succ, List.getElem_cons_zero, Act.put, List.setIfInBounds_toArray, List.set_cons_zero, List.set_cons_succ]
            refine hd_take 7 (_) rfl rfl (by kernel_rfl) (by kernel_rfl) (by kernel_rfl) (fun _ _ _ h => h) (fun w hw => by go_simp <;> rfl) E11 ?_
            simp only [List.getElem_toArray, List.getElem_cons_succ, List.getElem_cons_zero, Act.put, List.setIfInBounds_toArray, List.set_cons_zero, List.set_cons_succ]
            refine hd_take 8 (_) rfl rfl (by kernel_rfl) (by kernel_rfl) (by kernel_rfl) (fun _ _ _ h => h) (fun w hw => by go_simp <;> rfl) E11 ?_
            simp only [List.getElem_toArray, List.getElem_cons_succ, List.getElem_cons_zero, Act.put, List.setIfInBounds_toArray, List.set_cons_zero, List.set_cons_succ]
            refine hd_take 9 (_) rfl rfl (by kernel_rfl) (by kernel_rfl) (by kernel_rfl) (fun _ _ _ h => h) (fun w hw => by go_simp <;> rfl) E11 ?_
            simp only [List.getElem_toArray, List.getElem_cons_succ, List.getElem_cons_zero, Act.put, List.setIfInBounds_toArray, List.set_cons_zero, List.set_cons_succ]
            have QZ : Blk w11 wr2.heap.size 43 zCase := (Blk.new wr2.drew _ _).below' hb11
            have hgx : w9.heap.size < wr2.heap.size := hgx0
            have BBZ : Blk w11 w9.heap.size 4 (cellsT U (fun x => decide (x < u) && guiltB hs t m nd x)).toArray := (Blk.alloc (w := wr2.drew) BB.out _).below' hb11
            have CCO : ∀ W, W = w11.setRow wr2.heap.size (caseC (ownV K hs U u t nd) A' pm c' Zd m zd X m xc).toArray → CaseOK W (ownV K hs U u t nd) A' pm c' Zd m zd X m xc := fun W hW => by
              have hE : Below w9.heap.size w9 W := by rw [hW]; exact below_setRow E11 (Nat.le_of_lt hgx) _
              have hk := own_caseOK (K := K) (hs := hs) (n := U) (u := u) (y := t) (need := (nd : Int)) (Y := Zd) (ny := m) (d := zd) (H := X) (k := m) (h := xc) (w := W) (B := wr2.heap.size + 1) (A' := A') (c' := c') huU' (by omega) HKL.out (by rw [hW]; exact (OK16.le_ hok11 (by simp)).low_r (Nat.lt_succ_self _) _) HTM.out (HBT.out W hE) HHU.out.2 (HRW.out W (HKW.out W hE)).2
              rw [HPM.out] at hk
              exact hk
            clear hb11 hcc hok11
            have E12 : Hid (Below w9.heap.size w9 (w11.setRow wr2.heap.size (caseC (ownV K hs U u t nd) A' pm c' Zd m zd X m xc).toArray)) := below_setRow E11 (Nat.le_of_lt hgx) _
            refine hd_store 11 (wr2.heap.size) (caseC (ownV K hs U u t nd) A' pm c' Zd m zd X m xc).toArray _ _ _ rfl rfl rfl (by kernel_rfl) rfl rfl QZ (case_info CC.out.r16 CC.out.c16 CC.out.n16) (zCase_old CC.out.r16 CC.out.c16 CC.out.n16) (by simpa using caseC_all _ _ _ _ _ _ _ _ _ _) E12.out ?_
            simp only [List.getElem_toArray, List.getElem_cons_succ, List.getElem_cons_zero, Act.put, List.setIfInBounds_toArray, List.set_cons_zero, List.set_cons_succ]
            refine hd_take 12 (_) rfl rfl (by kernel_rfl) (by kernel_rfl) (by kernel_rfl) (fun _ _ _ h => h) (fun w hw => by go_simp <;> rfl) E12.out ?_
            simp only [List.getElem_toArray, List.getElem_cons_succ, List.getElem_cons_zero, Act.put, List.setIfInBounds_toArray, List.set_cons_zero, List.set_cons_succ]
            refine wpAnyH_done (by kernel_rfl) (NoPanic.normal ?_) _
            obtain ⟨w12, hw12⟩ : ∃ W, W = w11.setRow wr2.heap.size (caseC (ownV K hs U u t nd) A' pm c' Zd m zd X m xc).toArray := ⟨_, rfl⟩
            rw [← hw12] at E12 ⊢
            have Q12 : Hid (Blk w12 wr2.heap.size 43 (caseC (ownV K hs U u t nd) A' pm c' Zd m zd X m xc).toArray) := by unfold Hid; rw [hw12]; exact QZ.setRow _
            have BB12 : Hid (Blk w12 w9.heap.size 4 (cellsT U (fun x => decide (x < u) && guiltB hs t m nd x)).toArray) := by unfold Hid; rw [hw12]; exact (setRow_other _ _ _ _ (Nat.ne_of_lt hgx)).trans BBZ
            have C12 : Hid (CaseOK w12 (ownV K hs U u t nd) A' pm c' Zd m zd X m xc) := CCO w12 hw12
            clear hS hw12 QZ BBZ CCO
            --MARK 14
            go_wp2_with (first | (refine wpList_load_row rfl 43 (.tmp 30) rfl wr2.heap.size rfl 43 (caseC (ownV K hs U u t nd) A' pm c' Zd m zd X m xc).toArray (0, 0) _ Q12.out Tryz.underlying43 rfl (case_info C12.out.r16 C12.out.c16 C12.out.n16) ?_))
            refine (Judge_any (ownV K hs U u t nd) A' pm c' Zd m zd X m xc _ C12.out (HT.out.below_ (HKW.out _ E12.out))).mono ?_
            rw [HJU.out]
            cases hG : guiltB hs t m nd u
            · have HGU : Hid (guiltB hs t m nd u = false) := hG
              rw [if_neg (by simp)]
              rintro e w13 ⟨rfl, hb13⟩
              have E13 : Hid (Below w9.heap.size w9 w13) := bel_on E12.out hb13
              have BB13 := Lib.hid (BB12.out.below' hb13)
              have hag : ¬ (nd : Int) ≤ (ag : Int) := by have h1 := of_decide_eq_false hG; have h2 := HAGQ.out; omega
              have HPUT : Hid (∀ x, x < U → (if x = u then false else (decide (x < u) && guiltB hs t m nd x)) = (decide (x < u + 1) && guiltB hs t m nd x)) := fun x hx => by
                by_cases e : x = u
                · subst e; rw [if_pos rfl, hG]; simp
                · rw [if_neg e]; have : (x < u) = (x < u + 1) := by rw [eq_iff_iff]; omega
                  rw [decide_eq_decide.2 (by rw [this])]
              clear hb13 hG
              go_wp2_with fail
              refine wp_region_noPanic ?_
              refine wp_region_held_drew (S := fun W' => Below w9.heap.size w9 W') (by kernel_rfl) E13.out.drew (fun hS => ?_)
              refine hd_take 0 (_) rfl rfl (by kernel_rfl) (by kernel_rfl) (by kernel_rfl) (fun _ _ _ h => h) (fun w hw => by go_simp <;> rfl) hS ?_
              simp only [List.getElem_toArray, List.getElem_cons_succ, List.getElem_cons_zero, Act.put, List.setIfInBounds_toArray, List.set_cons_zero, List.set_cons_succ]
              refine hd_take 1 (_) rfl rfl (by kernel_rfl) (by kernel_rfl) (by kernel_rfl) (fun _ _ _ h => h) (fun w hw => by go_simp <;> rfl) hS ?_
              simp only [List.getElem_toArray, List.getElem_cons_succ, List.getElem_cons_zero, Act.put, List.setIfInBounds_toArray, List.set_cons_zero, List.set_cons_succ]
              refine hd_take 2 (_) rfl rfl (by kernel_rfl) (by kernel_rfl) (by kernel_rfl) (fun _ _ _ h => h) (fun w hw => by go_simp <;> rfl) hS ?_
              simp only [List.getElem_toArray, List.getElem_cons_succ, List.getElem_cons_zero, Act.put, List.setIfInBounds_toArray, List.set_cons_zero, List.set_cons_succ]
              refine hd_take 3 (_) rfl rfl (by kernel_rfl) (by kernel_rfl) (by kernel_rfl) (fun _ _ _ h => h) (fun w hw => by go_simp <;> rfl) hS ?_
              simp only [List.getElem_toArray, List.getElem_cons_succ, List.getElem_cons_zero, Act.put, List.setIfInBounds_toArray, List.set_cons_zero, List.set_cons_succ]
              refine hd_take 4 (_) rfl rfl (by kernel_rfl) (by kernel_rfl) (by kernel_rfl) (fun _ _ _ h => h) (fun w hw => by go_simp <;> rfl) hS ?_
              simp only [List.getElem_toArray, List.getElem_cons_succ, List.getElem_cons_zero, Act.put, List.setIfInBounds_toArray, List.set_cons_zero, List.set_cons_succ]
              refine hd_take 5 (.slice X m xc) rfl rfl (by kernel_rfl) (by kernel_rfl) (by kernel_rfl) (fun _ _ _ h => h) (fun w hw => by have hx := (HRW.out _ (HKW.out _ hw)).1; simp [go_sem, hx]) hS ?_
              simp only [List.getElem_toArray, List.getElem_cons_succ, List.getElem_cons_zero, Act.put, List.setIfInBounds_toArray, List.set_cons_zero, List.set_cons_succ]
              refine hd_take 6 (_) rfl rfl (by kernel_rfl) (by kernel_rfl) (by kernel_rfl) (fun _ _ _ h => h) (fun w hw => by go_simp <;> rfl) hS ?_
              simp only [List.getElem_toArray, List.getElem_cons_succ, List.getElem_cons_zero, Act.put, List.setIfInBounds_toArray, List.set_cons_zero, List.set_cons_succ]
              refine hd_take 7 (_) rfl rfl (by kernel_rfl) (by kernel_rfl) (by kernel_rfl) (fun _ _ _ h => h) (fun w hw => by go_simp <;> rfl) hS ?_
              simp only [List.getElem_toArray, List.getElem_cons_succ, List.getElem_cons_zero, Act.put, List.setIfInBounds_toArray, List.set_cons_zero, List.set_cons_succ]
              refine hd_take 8 (.slice Zd m zd) rfl rfl (by kernel_rfl) (by kernel_rfl) (by kernel_rfl) (fun _ _ _ h => h) (fun w hw => by have hx := HSF.out w; simp [execOp, Act.eval, Act.put, Sem.run_bind, Instr.sliceAt, hx]) hS ?_
              simp only [List.getElem_toArray, List.getElem_cons_succ, List.getElem_cons_zero, Act.put, List.setIfInBounds_toArray, List.set_cons_zero, List.set_cons_succ]
              refine hd_take 10 (_) rfl rfl (by kernel_rfl) (by kernel_rfl) (by kernel_rfl) (fun _ _ _ h => h) (fun w hw => by go_simp <;> rfl) hS ?_
              simp only [List.getElem_toArray, List.getElem_cons_succ, List.getElem_cons_zero, Act.put, List.setIfInBounds_toArray, List.set_cons_zero, List.set_cons_succ]
              refine hd_calls 9 19 #[.slice X m xc, .slice Zd m zd] rfl rfl (by kernel_rfl) (by go_simp <;> rfl) ?_
              refine (HAG.out _ hS).mono ?_
              rintro e w14 ⟨rfl, hb14⟩
              have E14 : Hid (Below w9.heap.size w9 w14) := bel_on E13.out.drew hb14
              have BB14 : Hid (Blk w14 w9.heap.size 4 (cellsT U (fun x => decide (x < u) && guiltB hs t m nd x)).toArray) := Blk.below' (w := w13.drew) BB13.out hb14
              clear hb14
              refine ⟨_, rfl, E14.out, ?_⟩
              simp only [List.getElem_toArray, List.getElem_cons_succ, List.getElem_cons_zero, Act.put, List.setIfInBounds_toArray, List.set_cons_zero, List.set_cons_succ]
              refine hd_take 11 (.bool false) rfl rfl (by kernel_rfl) (by kernel_rfl) (by kernel_rfl) (fun _ _ _ h => h) (fun w hw => by simp [go_sem]; omega) E14.out ?_
              simp only [List.getElem_toArray, List.getElem_cons_succ, List.getElem_cons_zero, Act.put, List.setIfInBounds_toArray, List.set_cons_zero, List.set_cons_succ]
              refine hd_take 12 (_) rfl rfl (by kernel_rfl) (by kernel_rfl) (by kernel_rfl) (fun _ _ _ h => h) (fun w hw => by go_simp <;> rfl) E14.out ?_
              simp only [List.getElem_toArray, List.getElem_cons_succ, List.getElem_cons_zero, Act.put, List.setIfInBounds_toArray, List.set_cons_zero, List.set_cons_succ]
              have k1 : w14.cell? ⟨w9.heap.size, u, none⟩ = some (.bool (decide (u < u) && guiltB hs t m nd u)) := (BB14.out.cell u).trans (cellsT_get huU')
              have k2 := BB14.out.frozen u
              have E15 : Hid (Below w9.heap.size w9 (w14.setCell ⟨w9.heap.size, u, none⟩ (.bool false))) := E14.out.setCell (p := ⟨w9.heap.size, u, none⟩) (Nat.le_refl _) _
              have BB15 : Hid (Blk (w14.setCell ⟨w9.heap.size, u, none⟩ (.bool false)) w9.heap.size 4 (cellsT U (fun x => decide (x < u + 1) && guiltB hs t m nd x)).toArray) := by
                have := BB14.out.set_ u (.bool false)
                rw [cellsT_put huU'] at this
                unfold Hid
                rw [← cellsT_congr (HPUT.out)]
                exact this
              refine hd_sole 13 (by kernel_rfl) (op_skip (w14.setCell ⟨w9.heap.size, u, none⟩ (.bool false)) rfl rfl (by simp [go_sem, k1, k2]) ⟨E15.out, ?_⟩)
              simp only [List.getElem_toArray, List.getElem_cons_succ, List.getElem_cons_zero, Act.put, List.setIfInBounds_toArray, List.set_cons_zero, List.set_cons_succ]
              refine wpAnyH_done (by kernel_rfl) (NoPanic.normal ?_) _
              obtain ⟨w15, hw15⟩ : ∃ W, W = w14.setCell ⟨w9.heap.size, u, none⟩ (.bool false) := ⟨_, rfl⟩
              rw [← hw15] at E15 BB15 ⊢
              have k3 : w15.cell? ⟨w9.heap.size, u, none⟩ = some (.bool false) := by have := (BB15.out.cell u).trans (cellsT_get huU'); rw [this]; simp [HGU.out]
              clear hS k1 k2 hw15 E14 BB14
              go_wp2_with fail
              go_roundw
              case rel => exact ⟨u + 1, by omega, by go_num, BB15.out, E15.out⟩
              case measure => simp [intOf]; omega
            · have HGU : Hid (guiltB hs t m nd u = true) := hG
              rw [if_pos rfl]
              rintro e w13 ⟨rfl, hb13⟩
              have E13 : Hid (Below w9.heap.size w9 w13) := bel_on E12.out hb13
              have BB13 := Lib.hid (BB12.out.below' hb13)
              have hag : (nd : Int) ≤ (ag : Int) := by have h1 := of_decide_eq_true hG; have h2 := HAGQ.out; omega
              have HPUT : Hid (∀ x, x < U → (if x = u then true else (decide (x < u) && guiltB hs t m nd x)) = (decide (x < u + 1) && guiltB hs t m nd x)) := fun x hx => by
                by_cases e : x = u
                · subst e; rw [if_pos rfl, hG]; simp
                · rw [if_neg e]; have : (x < u) = (x < u + 1) := by rw [eq_iff_iff]; omega
                  rw [decide_eq_decide.2 (by rw [this])]
              clear hb13 hG
              go_wp2_with fail
              refine wp_region_noPanic ?_
              refine wp_region_held_drew (S := fun W' => Below w9.heap.size w9 W') (by kernel_rfl) E13.out.drew (fun hS => ?_)
              refine hd_take 0 (_) rfl rfl (by kernel_rfl) (by kernel_rfl) (by kernel_rfl) (fun _ _ _ h => h) (fun w hw => by go_simp <;> rfl) hS ?_
              simp only [List.getElem_toArray, List.getElem_cons_succ, List.getElem_cons_zero, Act.put, List.setIfInBounds_toArray, List.set_cons_zero, List.set_cons_succ]
              refine hd_take 1 (_) rfl rfl (by kernel_rfl) (by kernel_rfl) (by kernel_rfl) (fun _ _ _ h => h) (fun w hw => by go_simp <;> rfl) hS ?_
              simp only [List.getElem_toArray, List.getElem_cons_succ, List.getElem_cons_zero, Act.put, List.setIfInBounds_toArray, List.set_cons_zero, List.set_cons_succ]
              refine hd_take 2 (_) rfl rfl (by kernel_rfl) (by kernel_rfl) (by kernel_rfl) (fun _ _ _ h => h) (fun w hw => by go_simp <;> rfl) hS ?_
              simp only [List.getElem_toArray, List.getElem_cons_succ, List.getElem_cons_zero, Act.put, List.setIfInBounds_toArray, List.set_cons_zero, List.set_cons_succ]
              refine hd_take 3 (_) rfl rfl (by kernel_rfl) (by kernel_rfl) (by kernel_rfl) (fun _ _ _ h => h) (fun w hw => by go_simp <;> rfl) hS ?_
              simp only [List.getElem_toArray, List.getElem_cons_succ, List.getElem_cons_zero, Act.put, List.setIfInBounds_toArray, List.set_cons_zero, List.set_cons_succ]
              refine hd_take 4 (_) rfl rfl (by kernel_rfl) (by kernel_rfl) (by kernel_rfl) (fun _ _ _ h => h) (fun w hw => by go_simp <;> rfl) hS ?_
              simp only [List.getElem_toArray, List.getElem_cons_succ, List.getElem_cons_zero, Act.put, List.setIfInBounds_toArray, List.set_cons_zero, List.set_cons_succ]
              refine hd_take 5 (.slice X m xc) rfl rfl (by kernel_rfl) (by kernel_rfl) (by kernel_rfl) (fun _ _ _ h => h) (fun w hw => by have hx := (HRW.out _ (HKW.out _ hw)).1; simp [go_sem, hx]) hS ?_
              simp only [List.getElem_toArray, List.getElem_cons_succ, List.getElem_cons_zero, Act.put, List.setIfInBounds_toArray, List.set_cons_zero, List.set_cons_succ]
              refine hd_take 6 (_) rfl rfl (by kernel_rfl) (by kernel_rfl) (by kernel_rfl) (fun _ _ _ h => h) (fun w hw => by go_simp <;> rfl) hS ?_
              simp only [List.getElem_toArray, List.getElem_cons_succ, List.getElem_cons_zero, Act.put, List.setIfInBounds_toArray, List.set_cons_zero, List.set_cons_succ]
              refine hd_take 7 (_) rfl rfl (by kernel_rfl) (by kernel_rfl) (by kernel_rfl) (fun _ _ _ h => h) (fun w hw => by go_simp <;> rfl) hS ?_
              simp only [List.getElem_toArray, List.getElem_cons_succ, List.getElem_cons_zero, Act.put, List.setIfInBounds_toArray, List.set_cons_zero, List.set_cons_succ]
              refine hd_take 8 (.slice Zd m zd) rfl rfl (by kernel_rfl) (by kernel_rfl) (by kernel_rfl) (fun _ _ _ h => h) (fun w hw => by have hx := HSF.out w; simp [execOp, Act.eval, Act.put, Sem.run_bind, Instr.sliceAt, hx]) hS ?_
              simp only [List.getElem_toArray, List.getElem_cons_succ, List.getElem_cons_zero, Act.put, List.setIfInBounds_toArray, List.set_cons_zero, List.set_cons_succ]
              refine hd_take 10 (_) rfl rfl (by kernel_rfl) (by kernel_rfl) (by kernel_rfl) (fun _ _ _ h => h) (fun w hw => by go_simp <;> rfl) hS ?_
              simp only [List.getElem_toArray, List.getElem_cons_succ, List.getElem_cons_zero, Act.put, List.setIfInBounds_toArray, List.set_cons_zero, List.set_cons_succ]
              refine hd_calls 9 19 #[.slice X m xc, .slice Zd m zd] rfl rfl (by kernel_rfl) (by go_simp <;> rfl) ?_
              refine (HAG.out _ hS).mono ?_
              rintro e w14 ⟨rfl, hb14⟩
              have E14 : Hid (Below w9.heap.size w9 w14) := bel_on E13.out.drew hb14
              have BB14 : Hid (Blk w14 w9.heap.size 4 (cellsT U (fun x => decide (x < u) && guiltB hs t m nd x)).toArray) := Blk.below' (w := w13.drew) BB13.out hb14
              clear hb14
              refine ⟨_, rfl, E14.out, ?_⟩
              simp only [List.getElem_toArray, List.getElem_cons_succ, List.getElem_cons_zero, Act.put, List.setIfInBounds_toArray, List.set_cons_zero, List.set_cons_succ]
              refine hd_take 11 (.bool true) rfl rfl (by kernel_rfl) (by kernel_rfl) (by kernel_rfl) (fun _ _ _ h => h) (fun w hw => by simp [go_sem]; omega) E14.out ?_
              simp only [List.getElem_toArray, List.getElem_cons_succ, List.getElem_cons_zero, Act.put, List.setIfInBounds_toArray, List.set_cons_zero, List.set_cons_succ]
              refine hd_take 12 (_) rfl rfl (by kernel_rfl) (by kernel_rfl) (by kernel_rfl) (fun _ _ _ h => h) (fun w hw => by go_simp <;> rfl) E14.out ?_
              simp only [List.getElem_toArray, List.getElem_cons_succ, List.getElem_cons_zero, Act.put, List.setIfInBounds_toArray, List.set_cons_zero, List.set_cons_succ]
              have k1 : w14.cell? ⟨w9.heap.size, u, none⟩ = some (.bool (decide (u < u) && guiltB hs t m nd u)) := (BB14.out.cell u).trans (cellsT_get huU')
              have k2 := BB14.out.frozen u
              have E15 : Hid (Below w9.heap.size w9 (w14.setCell ⟨w9.heap.size, u, none⟩ (.bool true))) := E14.out.setCell (p := ⟨w9.heap.size, u, none⟩) (Nat.le_refl _) _
              have BB15 : Hid (Blk (w14.setCell ⟨w9.heap.size, u, none⟩ (.bool true)) w9.heap.size 4 (cellsT U (fun x => decide (x < u + 1) && guiltB hs t m nd x)).toArray) := by
                have := BB14.out.set_ u (.bool true)
                rw [cellsT_put huU'] at this
                unfold Hid
                rw [← cellsT_congr (HPUT.out)]
                exact this
              refine hd_sole 13 (by kernel_rfl) (op_skip (w14.setCell ⟨w9.heap.size, u, none⟩ (.bool true)) rfl rfl (by simp [go_sem, k1, k2]) ⟨E15.out, ?_⟩)
              simp only [List.getElem_toArray, List.getElem_cons_succ, List.getElem_cons_zero, Act.put, List.setIfInBounds_toArray, List.set_cons_zero, List.set_cons_succ]
              refine wpAnyH_done (by kernel_rfl) (NoPanic.normal ?_) _
              obtain ⟨w15, hw15⟩ : ∃ W, W = w14.setCell ⟨w9.heap.size, u, none⟩ (.bool true) := ⟨_, rfl⟩
              rw [← hw15] at E15 BB15 ⊢
              have k3 : w15.cell? ⟨w9.heap.size, u, none⟩ = some (.bool true) := by have := (BB15.out.cell u).trans (cellsT_get huU'); rw [this]; simp [HGU.out]
              clear hS k1 k2 hw15 E14 BB14
              go_wp2_with fail
              go_roundw
              case rel => exact ⟨u + 1, by omega, by go_num, BB15.out, E15.out⟩
              case measure => simp [intOf]; omega
        --MARK 20
        · have huu : U = u := by omega
          subst huu
          have hx6 : ¬ ((U : Int) < (U : Int)) := by omega
          have KF : Hid (Below w.heap.size w wr2) := HKW.out _ EB.out
          have FF : Hid (Below w5.heap.size w5 wr2) := bel_on F9.out EB.out
          have QF : Hid (Below wr1.heap.size wr1 wr2) := bel_on Q5.out FF.out
          obtain ⟨bI, oI, rfl, -, -⟩ := (HIQ.out _ QF.out).at_ (i := 0) (by unfold natI; rw [List.length_map, HXL.out]; exact HXP.out)
          obtain ⟨Gf, hGf⟩ : ∃ q, guiltB hs t m nd = q := ⟨_, rfl⟩
          rw [hGf] at HFND HLONE BB
          have HMI : Hid (∀ i, i < xl → ∃ x : Nat, (∀ W, Below wr2.heap.size wr2 W → W.cell? ⟨bI, oI + i, none⟩ = some (.int .i64 (x : Int)) ∧ W.cell? ⟨w9.heap.size, x, none⟩ = some (.bool (Gf x))) ∧ x < U ∧ (xs.take (i + 1)).any Gf = ((xs.take i).any Gf || Gf x)) := fun i hi => by
            have hil : i < xs.length := by rw [HXL.out]; exact hi
            obtain ⟨b', o', e, -, hc⟩ := (HIQ.out _ QF.out).at_ (i := i) (by unfold natI; rw [List.length_map]; exact hil)
            injection e with e
            injection e with e1 e2
            subst e1 e2
            have e3 : it (natI xs) i = ((xs[i] : Nat) : Int) := by rw [it_nat, List.getD_eq_getElem?_getD, List.getElem?_eq_getElem hil]; rfl
            rw [e3] at hc
            have hxu := HXM.out _ (List.getElem_mem hil)
            have hb := (BB.out.cell xs[i]).trans (cellsT_get hxu)
            have e4 : (decide (xs[i] < U) && Gf xs[i]) = Gf xs[i] := by rw [decide_eq_true hxu]; rfl
            rw [e4] at hb
            exact ⟨xs[i], fun W hW => ⟨cell_up hW hc, cell_up hW hb⟩, hxu, any_take hil⟩
          have HTD2 : Hid (∀ i, bt t i = bt zz (n + i)) := fun i => by rw [← HTD.out, bt_drop]
          have HBZ2 : Hid (∀ i, i < m → ∀ W, Below wr2.heap.size wr2 W → W.cell? ⟨gz, n + i, none⟩ = some (.int .u8 (bt t i : Int))) := fun i hi W hW => by
            obtain ⟨b', o', e, -, hc⟩ := (HBZ.out _ (bel_on FF.out hW)).at_ (i := n + i) (by rw [HZL.out]; have := HNN.out; omega)
            injection e with e
            injection e with e1 e2
            subst e1 e2
            rw [Nat.zero_add, ← HTD2.out i] at hc
            exact hc
          have HIG := Lib.hid (HIQ.out _ QF.out)
          have HNM2 : Hid (∀ W, Below wr2.heap.size wr2 W → IR W A8 c8 nm) := fun W hW => (I9.out.below EB.out).below hW
          clear HACU0 HJU0 HAG0 hGf
          go_wp2_with fail
          clear c0
          --MARK 21
          go_loopw [34, 36] (fun vr vi wr => ∃ i : Nat, i ≤ m ∧ vi = .int .i64 ((n + i : Nat) : Int) ∧ vr = .int .i64 (readN t i : Int) ∧ Below wr2.heap.size wr2 wr) (fun _ vi _ => N - (intOf vi).toNat)
          case atStart => exact ⟨0, by omega, rfl, rfl, Below.refl _ _⟩
          case round =>
            obtain ⟨i, hi, rfl, rfl, hbel3⟩ := hrel
            obtain ⟨wr3, hwr3⟩ : ∃ W, W = wr := ⟨_, rfl⟩
            subst hwr3
            by_cases him : i < m
            · have hc := HBZ2.out i him _ hbel3
              have hbz := (copyB_sym HTC.out).2 i him
              have hki : ((n + i : Nat) : Int) < (N : Int) := by have := HNN.out; omega
              have hki2 : n + i < N := by have := HNN.out; omega
              have HS2 : Hid (bt t i = 2 → readN t (i + 1) = readN t i) := fun g => by rw [readN, if_pos g]; rfl
              have HS3 : Hid (bt t i ≠ 2 → readN t (i + 1) = readN t i + 1) := fun g => by rw [readN, if_neg g]
              obtain ⟨b, hb⟩ : ∃ q, bt t i = q := ⟨_, rfl⟩
              rw [hb] at hc hbz HS2 HS3
              obtain ⟨rd, hrd⟩ : ∃ q, readN t i = q := ⟨_, rfl⟩
              have hrl : rd ≤ 64 := by have := readN_le t i; omega
              rw [hrd] at HS2 HS3 ⊢
              obtain ⟨k, hk⟩ : ∃ q, n + i = q := ⟨_, rfl⟩
              have HK2 := Lib.hid hk
              rw [hk] at hc hki hki2 ⊢
              have hrdi : (rd : Int) ≤ 64 := by omega
              have hk1i : (k : Int) ≤ 1024 := by omega
              have HIM := Lib.hid him
              clear hb hrd hk him hrl
              by_cases hb2 : b = 2
              · subst hb2
                have HE := Lib.hid (HS2.out rfl)
                clear HS2 HS3 hbz
                go_wp2_with fail
                go_roundw
                case rel => exact ⟨i + 1, HIM.out, by have := HK2.out; simp; omega, by rw [HE.out], hbel3⟩
                case measure => simp [intOf]; omega
              · have HE := Lib.hid (HS3.out hb2)
                have tb1 : ((b : Int) == 2) = false := by simp; omega
                have tb2 : decide ((b : Int) = 2) = false := by simp; omega
                have tb3 : decide (b = 2) = false := by simp; omega
                clear HS2 HS3 hbz
                go_wp2_with fail
                go_roundw
                case rel => exact ⟨i + 1, HIM.out, by have := HK2.out; simp; omega, by rw [HE.out]; rfl, hbel3⟩
                case measure => simp [intOf]; omega
            · have him2 : i = m := by omega
              subst him2
              have hNe : n + i = N := HNN.out
              have hx7 : ¬ ((N : Int) < (N : Int)) := by omega
              rw [hNe]
              obtain ⟨rd, hrd⟩ : ∃ q, readN t i = q := ⟨_, rfl⟩
              have hrdi : (rd : Int) ≤ 64 := by have := readN_le t i; omega
              rw [hrd] at HFND ⊢
              clear hrd hNe him
              go_wp2_with fail
              --MARK 22
              go_loopw [35, 37] (fun vf vi wr => ∃ i2 : Nat, i2 ≤ xl ∧ vi = .int .i64 (i2 : Int) ∧ vf = .bool ((xs.take i2).any Gf) ∧ Below wr2.heap.size wr2 wr) (fun _ vi _ => xl - (intOf vi).toNat)
              case atStart => exact ⟨0, by omega, rfl, rfl, hbel3⟩
              case round =>
                obtain ⟨i2, hi2, rfl, rfl, hbel4⟩ := hrel
                obtain ⟨wr4, hwr4⟩ : ∃ W, W = wr := ⟨_, rfl⟩
                subst hwr4
                by_cases hix : i2 < xl
                · have hii : (i2 : Int) < xl := by omega
                  have hi0 : (0 : Int) ≤ i2 := by omega
                  obtain ⟨x, hcx, hxU, hnx⟩ := HMI.out i2 hix
                  obtain ⟨cx1, cx2⟩ := hcx _ hbel4
                  have hxi2 : (x : Int) < U := by omega
                  have hxi3 : (0 : Int) ≤ x := by omega
                  have HNX := Lib.hid hnx
                  obtain ⟨f, hf⟩ : ∃ q, (xs.take i2).any Gf = q := ⟨_, rfl⟩
                  obtain ⟨g, hg⟩ : ∃ q, Gf x = q := ⟨_, rfl⟩
                  rw [hf, hg] at HNX
                  rw [hg] at cx2
                  rw [hf]
                  have HIX := Lib.hid hix
                  clear hcx hnx hf hg hix
                  cases f <;> cases g
                  all_goals
                    go_wp2_with fail
                    go_roundw
                    case rel => exact ⟨i2 + 1, HIX.out, by go_num, by rw [HNX.out]; rfl, hbel4⟩
                    case measure => simp [intOf]; omega
                · have hix2 : i2 = xl := by omega
                  subst hix2
                  have hx8 : ¬ ((i2 : Int) < (i2 : Int)) := by omega
                  have htk : xs.take i2 = xs := by rw [← HXL.out, List.take_length]
                  rw [htk]
                  obtain ⟨q1, hq1⟩ : ∃ q, nd - 1 = q := ⟨_, rfl⟩
                  have hnd0 := HND.out
                  have e1 : IntKind.i64.wrap ((nd : Int) - 1) = (q1 : Int) := by rw [IntKind.wrap_i64]; omega
                  obtain ⟨q2, hq2⟩ : ∃ q, q1 * i2 = q := ⟨_, rfl⟩
                  have hq2b : q2 ≤ 64 * 16 := by rw [← hq2]; exact Nat.mul_le_mul (by omega) (by omega)
                  have e3 : (q1 : Int) * (i2 : Int) = (q2 : Int) := by rw [← hq2, Int.natCast_mul]
                  have e2 : IntKind.i64.wrap ((q1 : Int) * (i2 : Int)) = (q2 : Int) := by rw [e3, IntKind.wrap_i64]; omega
                  have hfn : q2 < rd → xs.any Gf = true := fun g => HFND.out (by rw [hq1, HXL.out, hq2]; exact g)
                  have KE : Hid (Below w.heap.size w wr4) := bel_on KF.out hbel4
                  have HTA : Hid (∀ W, Calls Tryz.prog 20 #[.int .i64 (D : Int), .int .i64 (D : Int), .int .i64 0] W fun e w' => ∃ X x' Z z, e = .returned (.tuple #[.agg #[.slice X (lowS (divsN D D 1) (bin (2 * D) D)).1.length x', .slice Z (lowS (divsN D D 1) (bin (2 * D) D)).2.length z], .int .i64 0]) ∧ NR w' X x' (lowS (divsN D D 1) (bin (2 * D) D)).1 ∧ NR w' Z z (lowS (divsN D D 1) (bin (2 * D) D)).2 ∧ Below W.heap.size W w') := fun W => top_tail (by have := HBN.out; omega) (by have := HBN.out; omega) W
                  have HCM : Hid (∀ W A a B b, Below w.heap.size w W → NR W A a (lowS (divsN D D 1) (bin (2 * D) D)).1 → NR W B b (lowS (divsN D D 1) (bin (2 * D) D)).2 → Calls Tryz.prog 21 #[.agg #[.slice A (lowS (divsN D D 1) (bin (2 * D) D)).1.length a, .slice B (lowS (divsN D D 1) (bin (2 * D) D)).2.length b], .agg #[.slice s.A s.x.length s.ca, .slice s.Bd s.y.length s.cb]] W fun e w' => e = .returned (.tuple #[.int .i64 (cmpN (divsN D D 1 * val s.y) (val s.x * bin (2 * D) D)), .int .i64 0]) ∧ Below W.heap.size W w') := fun W A a B b hW g1 g2 => top_cmp HOK.out HDD.out (HST.out W hW) g1 g2
                  have hv2 := (esc_cmp_ HOK.out HDD.out).2
                  obtain ⟨zc2, hzc2⟩ : ∃ z, cmpN (divsN D D 1 * val s.y) (val s.x * bin (2 * D) D) = z := ⟨_, rfl⟩
                  rw [hzc2] at HCM hv2
                  have HV2 := Lib.hid hv2
                  generalize lowS (divsN D D 1) (bin (2 * D) D) = rr at *
                  obtain ⟨ra, rb⟩ := rr
                  dsimp only at HTA HCM
                  obtain ⟨la, hla⟩ : ∃ q, ra.length = q := ⟨_, rfl⟩
                  obtain ⟨lb, hlb⟩ : ∃ q, rb.length = q := ⟨_, rfl⟩
                  rw [hla, hlb] at HTA HCM
                  have HC18 : Hid (∀ W, Below w.heap.size w W → W.cell? ⟨w0.heap.size, 18, none⟩ = some (.slice s.A s.x.length s.ca) ∧ W.cell? ⟨w0.heap.size, 19, none⟩ = some (.slice s.Bd s.y.length s.cb)) := fun W hW => by
                    obtain ⟨-, -, g2, g3⟩ := StV.cells ((HST.out W hW).k16) (HXT.out W hW)
                    exact ⟨g2, g3⟩
                  obtain ⟨lx, hlx⟩ : ∃ q, s.x.length = q := ⟨_, rfl⟩
                  obtain ⟨ly, hly⟩ : ∃ q, s.y.length = q := ⟨_, rfl⟩
                  rw [hlx, hly] at HC18 HCM
                  have HFI : Hid (i2 = 1 → ∃ x, xs = [x]) := fun g => by
                    have h1 := HXL.out
                    rw [g] at h1
                    match xs, h1 with
                    | [x], _ => exact ⟨x, rfl⟩
                  have HFX : Hid (xs.any Gf = false → ¬ i2 = 1) := fun g g2 => by
                    obtain ⟨x, hx⟩ := HFI.out g2
                    have := (HLONE.out x hx).2
                    rw [g] at this
                    cases this
                  have HNMX : Hid (i2 = 1 → zc2 ≤ 0 → ∃ x : Nat, xs = [x] ∧ nm = [(x : Int)]) := fun g g2 => by
                    obtain ⟨x, hx⟩ := HFI.out g
                    refine ⟨x, hx, ?_⟩
                    rw [← HNMS.out, (HLONE.out x hx).1]
                    have hb := HBN.out
                    have hxm := HXM.out x (by rw [hx]; simp)
                    exact lone_names HOK.out HDD.out HUU.out (by rw [HHN.out]; exact HNM.out) (by omega) (by omega) (by have := HUM.out; omega) (HV2.out.1 g2)
                  have HHD : Hid (∀ x : Nat, xs = [x] → ∀ W, Below wr2.heap.size wr2 W → W.cell? ⟨bI, oI, none⟩ = some (.int .i64 (x : Int))) := fun x hx W hW => by
                    obtain ⟨b', o', e, -, hc⟩ := (HIG.out.below hW).at_ (i := 0) (by rw [hx]; simp [natI])
                    injection e with e
                    injection e with e1 e2
                    subst e1 e2
                    have e3 : it (natI xs) 0 = (x : Int) := by rw [hx]; rfl
                    rw [e3, Nat.add_zero] at hc
                    exact hc
                  have hi2p : (0 : Int) < i2 := hxpi
                  obtain ⟨F, hF⟩ : ∃ q, xs.any Gf = q := ⟨_, rfl⟩
                  rw [hF] at hfn HFX ⊢
                  clear hq1 hq2 htk hix hlx hly hla hlb hzc2 hv2 hF hnd0
                  --MARK 23
                  by_cases hx1 : 1 < i2
                  · have hx1i : (1 : Int) < i2 := by omega
                    cases F
                    · have hlt : ¬ (q2 : Int) < (rd : Int) := by intro g; have := hfn (by omega); cases this
                      clear hfn
                      go_wp2_with fail
                      go_ret
                      exact ⟨by simp, bel_on b0.out KE.out⟩
                    · clear hfn
                      go_wp2_with fail
                      all_goals
                        go_ret
                        exact ⟨by simp, bel_on b0.out KE.out⟩
                  have hi21 : i2 = 1 := by have := HXP.out; omega
                  cases F
                  · exact absurd hi21 (HFX.out rfl)
                  have HI21 := Lib.hid hi21
                  have hx1i : ¬ (1 : Int) < i2 := by omega
                  obtain ⟨c0, c1, -⟩ := HC0.out _ KE.out
                  clear hfn hx1 hi21
                  --MARK 24
                  go_wp2_with fail
                  all_goals
                    --MARK 25
                    refine (HTA.out _).mono ?_
                    rintro e w20 ⟨X20, x20, Z20, z20, rfl, gx20, gz20, hb20⟩
                    obtain ⟨w20b, hw20⟩ : ∃ W, W = w20.alloc (.cells #[.slice X20 la x20, .slice Z20 lb z20] 27) := ⟨_, rfl⟩
                    have d20 : Below w20.heap.size w20 w20b := by rw [hw20]; exact alloc_bel _ _
                    have K20 : Hid (Below w.heap.size w w20b) := bel_on KE.out (bel_on hb20 d20)
                    have R20 : Hid (Below wr2.heap.size wr2 w20b) := bel_on hbel4 (bel_on hb20 d20)
                    have T20 : Hid (Blk w20b w20.heap.size 27 #[.slice X20 la x20, .slice Z20 lb z20]) := by unfold Hid; rw [hw20]; exact Blk.new _ _ _
                    have GX20 := Lib.hid (gx20.below d20)
                    have GZ20 := Lib.hid (gz20.below d20)
                    have HW20 := Lib.hid hw20
                    clear hw20 d20 hb20 gx20 gz20 c0 c1
                    obtain ⟨c18, c19⟩ := HC18.out _ K20.out
                    have q20 := T20.out.cell 0
                    have q21 := T20.out.cell 1
                    go_wp2_with (rw [← HW20.out])
                    --MARK 26
                    refine (HCM.out _ _ _ _ _ K20.out GX20.out GZ20.out).mono ?_
                    rintro e w21 ⟨rfl, hb21⟩
                    have K21 : Hid (Below w.heap.size w w21) := bel_on K20.out hb21
                    have R21 : Hid (Below wr2.heap.size wr2 w21) := bel_on R20.out hb21
                    clear hb21 c18 c19 q20 q21
                    by_cases hzp : 0 < zc2
                    · have tz1 : decide (0 < zc2) = true := by simp [hzp]
                      go_wp2_with fail
                      go_quiet (fail)
                      go_wp2_with fail
                      go_ret
                      exact ⟨by simp, bel_on b0.out (below_drewN K21.out _)⟩
                    · have tz1 : decide (0 < zc2) = false := by simp [hzp]
                      have tz2 : zc2 ≤ 0 := by omega
                      obtain ⟨x, hx, hnmx⟩ := HNMX.out HI21.out tz2
                      have hcx := HHD.out x hx _ R21.out
                      have hnl1 : nl = 1 := by rw [← HNML.out, hnmx]; rfl
                      obtain ⟨pn, on, hA8, -, hcn⟩ := (HNM2.out _ R21.out).at_ (i := 0) (by rw [hnmx]; simp)
                      rw [hnmx, Nat.add_zero] at hcn
                      have hcn2 : w21.cell? ⟨pn, on, none⟩ = some (.int .i64 (x : Int)) := hcn
                      subst hnl1
                      subst hA8
                      clear hcn hnmx hx
                      go_wp2_with fail
                      go_quiet (fail)
                      go_wp2_with fail
                      go_ret
                      exact ⟨by simp, bel_on b0.out (below_drewN K21.out _)⟩


end Go.Proofs.YtchnaimpmegbkaaGreatDoor

/- The law TopFramed: the walk, as the frame wants it. -/
namespace Go.Proofs.YtchnaimpmegbkaaGreatDoor
open Go.RowKit
set_option linter.unusedVariables false

theorem topFramed_walk (s : StV) (A : Option Addr) (c : Nat) (rs0 : List BRow) (K : List UInt8) (C : Nat) (Y : Option Addr) (d : Nat) (y : List UInt8) (need : Int) (w : World)
    (h0 : StOK w s) (hR0 : RR w A c rs0) (hcap : c * 24 ≤ 140737488351232) (hK : K.length = 16) (hC : C < 65536) (hy0 : BR w Y d y) (hd1 : -9223372036854775808 ≤ need) (hd2 : need ≤ 9223372036854775807) (hT : TestsIn w) :
    Calls Tryz.prog 4 #[.agg s.cs.toArray, .slice A rs0.length c, .agg (cellsB K).toArray, .int .u16 (C : Int), .slice Y y.length d, .int .i64 need] w fun e w' => e = .returned (.bool true) ∧ Below w.heap.size w w' :=
  framed_all s A c rs0 K C Y d y need w rfl rfl h0 hR0 hK hC hy0 hT
end Go.Proofs.YtchnaimpmegbkaaGreatDoor

/- Rows of bytes among a law's arguments. -/
namespace Go.Proofs.YtchnaimpmegbkaaGreatDoor
open Go.ChangeShapes Go.WideShapes Go.ChangeAt Go.RowKit Go.Deep
set_option linter.unusedVariables false

theorem rows_of_trod {H : Type} {enc : TypeId × Value → H} {W : World} {fuel : Nat} {cs : List Value} {x : DataW H × List MemPlace} (h : DataW.trod enc Tryz.prog W 0 (fun _ => true) true fuel 30 cs = some x) (hw : ∀ n ∈ x.1.weights Tryz.prog 30, n ≤ reachBytes) : ∃ A c rs, cs = [.slice A (List.length rs) c] ∧ RR W A c rs ∧ c * 24 ≤ 140737488351232 := by
  obtain ⟨A, len, cap, m, C, D, rfl, hle, hcap, hby, hcell, hel⟩ := slice_of_trod Tryz.underlying30 (by kernel_rfl : Tryz.prog.cellsOf 31 = 1) (by omega) (by kernel_rfl : Tryz.prog.bytesOf 31 = 24) h hw
  obtain ⟨U, hU⟩ := choose_lt (α := BRow) (p := fun i u => C i = [u.v] ∧ BR W u.A u.c u.l) (fun i hi => by obtain ⟨A, c, l, e, hb⟩ := bytes_of_trod Tryz.underlying31 (hel i hi).2.1 (hel i hi).2.2; exact ⟨⟨A, c, l⟩, e, hb⟩)
  have hrd := rd_of_cells (by_ := 24) hle hcap (by omega) (fun i hi => (hel i hi).1) hcell
  have hfl : (List.range len).flatMap C = ((List.range len).map U).map BRow.v := by
    rw [List.flatMap_def, List.map_congr_left (g := fun i => [(U i).v]) (fun i hi => (hU i (List.mem_range.1 hi)).1), ← List.flatMap_def, List.map_map]
    generalize List.range len = l; induction l with | nil => rfl | cons a l ih => simp [ih]
  rw [hfl] at hrd
  refine ⟨A, cap, (List.range len).map U, by simp, ⟨by simpa using hrd, fun r hr => ?_⟩, hby⟩
  obtain ⟨i, hi, rfl⟩ := List.mem_map.1 hr
  exact (hU i (List.mem_range.1 hi)).2

set_option maxRecDepth 100000 in
theorem open_rows {H : Type} {enc : TypeId × Value → H} {W : World} {b0 : Nat} {v : Value} {d : DataW H} {ps : List MemPlace} (hval : Value.okWide Tryz.prog W .any b0 30 v) (hd : DataW.Trod enc Tryz.prog W 0 (fun _ => true) true 30 v d ps)
    (hw : ∀ n ∈ d.weights Tryz.prog 30, n ≤ reachBytes) : ∃ A c z, v = .slice A (List.length z) c ∧ RR W A c z ∧ c * 24 ≤ 140737488351232 := by
  obtain ⟨fuel, hf⟩ := hd
  obtain ⟨A, c, z, e, h, h2⟩ := rows_of_trod hf hw
  exact ⟨A, c, z, slice_val Tryz.underlying30 hval e, h, h2⟩
end Go.Proofs.YtchnaimpmegbkaaGreatDoor

/- What the frames of the laws share: a recording, a key among the arguments, opened. -/
namespace Go.Proofs.YtchnaimpmegbkaaGreatDoor
open Go.ChangeShapes Go.WideShapes Go.ChangeAt Go.RowKit Go.Deep
set_option linter.unusedVariables false

theorem okWide_array {P : Program} {w : World} {r : Reach} {base : Nat} {t e : TypeId} {v : Value} {n : Nat} (ht : P.underlying t = some (.array n e)) (h : Value.okWide P w r base t v) : ∃ cs, v = .agg cs ∧ cs.size = P.cellsOf t := by
  simp only [Value.okWide, ht] at h
  obtain ⟨cs, h1, h2, _⟩ := h
  exact ⟨cs, h1, h2⟩
set_option maxRecDepth 100000 in
theorem open_key {H : Type} {enc : TypeId × Value → H} {W : World} {b0 : Nat} {v : Value} {d : DataW H} {ps : List MemPlace} (hval : Value.okWide Tryz.prog W .any b0 23 v) (hd : DataW.Trod enc Tryz.prog W 0 (fun _ => true) true 23 v d ps) :
    ∃ k : List UInt8, v = .agg (cellsB k).toArray ∧ k.length = 16 := by
  obtain ⟨cs, rfl, hsz⟩ := okWide_array Tryz.underlying23 hval
  obtain ⟨fuel, hf⟩ := hd
  obtain ⟨k, hk, e⟩ := key_of_trod hf
  refine ⟨k, ?_, hk⟩
  rw [← e]
  simp [Value.cells]

end Go.Proofs.YtchnaimpmegbkaaGreatDoor
