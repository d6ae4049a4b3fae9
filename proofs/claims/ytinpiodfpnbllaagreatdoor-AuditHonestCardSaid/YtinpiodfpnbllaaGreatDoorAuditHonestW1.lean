/-
  Lemmas and contracts, joined.
-/
import Derived.Test.YtinpiodfpnbllaaGreatDoorAuE1
set_option linter.unusedSimpArgs false
set_option linter.unusedVariables false
set_option linter.unnecessarySimpa false
/- The law AuditHonest: the walk. -/
namespace Go.Proofs.YtinpiodfpnbllaaGreatDoor
open Go.RowKit
set_option linter.unusedVariables false
set_option linter.unusedSimpArgs false

theorem cellsK_split {ks : List (List UInt8)} (h : Keys16 ks) {i : Nat} (hi : i < ks.length) (k : List UInt8) : cellsK (ks.set i k) = cellsK (ks.take i) ++ (cellsB k ++ cellsK (ks.drop (i + 1))) := by
  rw [List.set_eq_take_append_cons_drop, if_pos hi, cellsK_append]
  rfl
theorem cellsK_here {ks : List (List UInt8)} {i : Nat} (hi : i < ks.length) : cellsK ks = cellsK (ks.take i) ++ (cellsB ks[i] ++ cellsK (ks.drop (i + 1))) := by
  conv => lhs; rw [← List.take_append_drop i ks, List.drop_eq_getElem_cons hi, cellsK_append]
  rfl
theorem OK16.setAt {B : Nat} {w : World} {A : Option Addr} {c : Nat} {ks : List (List UInt8)} (h : OK16 B w A c ks) (hk : Keys16 ks) {i : Nat} (hi : i < ks.length) {k : List UInt8} (h16 : k.length = 16) (hlen : ks.length ≤ 140737488351232) :
    ∃ g, A = some ⟨g, 0, none⟩ ∧ B ≤ g ∧ w.there g (i * 16) (cellsB k).toArray.size ∧ KR (w.setCells g (i * 16) (cellsB k)) (some ⟨g, 0, none⟩) c (ks.set i k) := by
  have hl := cellsK_length hk
  rcases h.2 with ⟨_, e0⟩ | ⟨g, cap, cur, e0, hb, hg, hn, hm, hs, ht⟩
  · omega
  · injection e0 with e1 _ e3
    subst e3
    have hB : Blk w g 24 cur := hg
    have hcl : (cellsB k).length = 16 := by rw [cellsB_length, h16]
    have hb1 : i * 16 + 16 ≤ ks.length * 16 := by omega
    have hb2 := Nat.mul_le_mul_right 16 hn
    have hth : w.there g (i * 16) (cellsB k).length := hB.there (by rw [hcl, hs]; omega)
    have hcell : ∀ j v, (cellsK ks)[j]? = some v → w.cell? ⟨g, j, none⟩ = some v := fun j v hv => by
      have hj : j < ks.length * 16 := by rw [← hl]; exact (List.getElem?_eq_some_iff.1 hv).1
      rw [hB.cell j, ← Array.getElem?_toList]
      have e2 : (cur.toList.take (ks.length * 16))[j]? = (cellsK ks)[j]? := by rw [ht]
      rw [List.getElem?_take, if_pos hj] at e2
      rw [e2, hv]
    have hpl : (cellsK (ks.take i)).length = i * 16 := by rw [cellsK_length (hk.take i), List.length_take, Nat.min_eq_left (by omega)]
    refine ⟨g, e1, hb, by rw [List.size_toArray]; exact hth, ⟨⟨by rw [cellsK_length (fun x hx => (List.mem_or_eq_of_mem_set hx).elim (hk x) (fun e => by rw [e]; exact h16)), List.length_set], by rw [List.length_set]; exact hn, by simp only [maxLen] at hm; omega, by rw [List.length_set]; exact hlen⟩, fun _ => ⟨g, 0, rfl, by simpa using hB.lt, fun j v hv => ?_⟩⟩, fun x hx => (List.mem_or_eq_of_mem_set hx).elim (hk x) (fun e => by rw [e]; exact h16)⟩
    rw [Nat.zero_add]
    rw [cellsK_split hk hi k] at hv
    rcases Nat.lt_or_ge j (i * 16) with hj | hj
    · rw [List.getElem?_append_left (by omega)] at hv
      rw [World.cell?_setCells_out g _ _ _ ⟨g, j, none⟩ (fun _ _ => .inl hj)]
      refine hcell j v ?_
      rw [cellsK_here hi, List.getElem?_append_left (by omega)]
      exact hv
    · rw [List.getElem?_append_right (by omega), hpl] at hv
      rcases Nat.lt_or_ge j (i * 16 + 16) with hj2 | hj2
      · rw [List.getElem?_append_left (by omega)] at hv
        have := World.rangeAt_setCells_same w g (i * 16) (cellsB k) hth (j - i * 16) v hv
        rw [show i * 16 + (j - i * 16) = j from by omega] at this
        exact this
      · rw [List.getElem?_append_right (by omega)] at hv
        rw [World.cell?_setCells_out g _ _ _ ⟨g, j, none⟩ (fun _ _ => .inr (by rw [hcl]; exact hj2))]
        refine hcell j v ?_
        have hki : (cellsB (ks[i])).length = 16 := by rw [cellsB_length, hk _ (List.getElem_mem hi)]
        rw [cellsK_here hi, List.getElem?_append_right (by omega), hpl, List.getElem?_append_right (by omega)]
        rw [hcl] at hv
        rw [hki]
        exact hv
theorem KR_src_ {w : World} {A : Option Addr} {c : Nat} {ks : List (List UInt8)} (h : KR w A c ks) {n : Nat} (hn : ks.length = n) : Src w 16 A n (cellsK ks) := by subst hn; exact Rd.src h.1
theorem OK16_lit0_ (w : World) : OK16 w.heap.size (w.alloc (.cells #[] 24)) (some ⟨w.heap.size, 0, none⟩) 0 [] := World.ownsRow_lit w #[] 0 (Nat.le_refl _) (by simp [maxLen]) (by simp)
def honV (L : List (List UInt8)) (n j : Nat) (kx y : List UInt8) (need : Int) (half nonce : List UInt8) : CV := ⟨rootS L, kx, n, j, pathS L j, y, need, true, half, nonce⟩
theorem honest_plain {l : List (List UInt8)} {n j : Nat} {half nonce y : List UInt8} {need : Int} (hn : l.length = n) (hj : j < n) (h128 : n ≤ 128) (hh : halfB half 1 = true) (hc : copyB y half.length = true) (h1 : 1 ≤ need) (h2 : need ≤ (y.length : Int)) :
    judgeS (honV (l.set j (digS (openT half nonce))) n j (digS (openT half nonce)) y need half nonce) = (if need ≤ (agreeN half y y.length : Int) then 3 else 4, 0) := by
  obtain ⟨⟨a1, a2⟩, a3⟩ := halfB_iff.1 hh
  have hcc : y.length = half.length ∧ symB y 2 = true := by simpa [copyB] using hc
  have hln : (l.set j (digS (openT half nonce))).length = n := by rw [List.length_set, hn]
  have hfit : fitB (honV (l.set j (digS (openT half nonce))) n j (digS (openT half nonce)) y need half nonce) = true := by
    refine fitB_iff.2 ⟨halfB_iff.2 ⟨⟨by show 1 ≤ y.length; omega, by show y.length ≤ 64; omega⟩, hcc.2⟩, h1, h2, fitsB_iff.2 ⟨⟨?_, ?_, ?_, ?_⟩, ?_⟩⟩
    · show (1 : Int) ≤ (n : Int); omega
    · show (n : Int) ≤ 128; omega
    · show (0 : Int) ≤ (j : Int); omega
    · show (j : Int) < (n : Int); omega
    · show (pathS (l.set j (digS (openT half nonce))) j).length = stepsS (n : Int).toNat (j : Int).toNat
      rw [Int.toNat_natCast, Int.toNat_natCast, pathS_steps n _ j hln]
  have hg : givesB (honV (l.set j (digS (openT half nonce))) n j (digS (openT half nonce)) y need half nonce) = true := by
    have := climb_path n (l.set j (digS (openT half nonce))) j hln hj
    have e : (l.set j (digS (openT half nonce))).getD j [] = digS (openT half nonce) := by rw [List.getD_eq_getElem?_getD, List.getElem?_set_self (by omega)]; rfl
    rw [e] at this
    show ((climbS (digS (openT half nonce)) (n : Int).toNat (j : Int).toNat (pathS (l.set j (digS (openT half nonce))) j)).1 == rootS (l.set j (digS (openT half nonce)))) = true
    rw [Int.toNat_natCast, Int.toNat_natCast, this]
    exact beq_self_eq_true _
  have ho : opensB (honV (l.set j (digS (openT half nonce))) n j (digS (openT half nonce)) y need half nonce) = true := by
    show (true && (decide (half.length = y.length) && (halfB half 1 && (digS (openT half nonce) == digS (openT half nonce))))) = true
    rw [hh, beq_self_eq_true, decide_eq_true hcc.1.symm]
    rfl
  by_cases hx : need ≤ (agreeN half y y.length : Int)
  · rw [if_pos hx]; exact judge_3 hfit hg ho (decide_eq_true hx)
  · rw [if_neg hx]; exact judge_4 hfit hg ho (decide_eq_false hx)

set_option maxHeartbeats 4000000 in
set_option maxRecDepth 100000 in
theorem honest_bad (l : List (List UInt8)) (A : Option Addr) (c : Nat) (at_ : Int) (half : List UInt8) (H : Option Addr) (ch : Nat) (nonce : List UInt8) (y : List UInt8) (Y : Option Addr) (cy : Nat) (need : Int) (w : World) {n nh ny : Nat} (hn : l.length = n) (hnh : half.length = nh) (hny : y.length = ny) (h : KR w A c l) (hh : BR w H ch half) (hK : nonce.length = 16) (hy : BR w Y cy y) (HA : Hid (∀ W, Below w.heap.size w W → Calls Tryz.prog 25 #[] W fun e w' => e = .returned (.bool true) ∧ Below W.heap.size W w')) (h1 : halfB half 1 = false) :
    Calls Tryz.prog 6 #[.slice A n c, .int .i64 at_, .slice H nh ch, .agg (cellsB nonce).toArray, .slice Y ny cy, .int .i64 need] w fun e w' => e = .returned (.bool true) ∧ Below w.heap.size w w' := by
  have HC : Hid (∀ W, Below w.heap.size w W → Calls Tryz.prog 18 #[.slice H nh ch, .agg (cellsB nonce).toArray] W fun e w' => e = .returned (.tuple #[.agg (cellsB (cmS half nonce).1).toArray, .int .i64 (cmS half nonce).2]) ∧ Below W.heap.size W w') := fun W hW => Commit_any half nonce H ch W hnh hK (hh.below hW)
  have HIH : Hid (∀ W, Below w.heap.size w W → Calls Tryz.prog 33 #[.slice H nh ch] W fun e w' => e = .returned (.bool (halfB half 1)) ∧ W = w') := fun W hW => isHalf_any H ch half W hnh (hh.below hW)
  have HXL : Hid ((cmS half nonce).1.length = 16) := cmS_length _ _
  have hnl : (n : Int) ≤ 140737488351232 := by have := h.len; omega
  have hhl : (nh : Int) ≤ 140737488351232 := by have := hh.len; omega
  have hyl : (ny : Int) ≤ 140737488351232 := by have := hy.len; omega
  obtain ⟨W0, hW0⟩ : ∃ W, W = w.alloc (.cells (cellsB nonce).toArray 24) := ⟨_, rfl⟩
  have D0 : Hid (Below w.heap.size w W0) := by unfold Hid; rw [hW0]; exact alloc_bel w _
  have N0 : Hid (Blk W0 w.heap.size 24 (cellsB nonce).toArray) := by unfold Hid; rw [hW0]; exact Blk.new w _ _
  have HW0 := Lib.hid hW0
  have HNL := Lib.hid hK
  have e1 : cmS half nonce = (zeroK, 2) := by unfold cmS; rw [if_neg (by rw [h1]; simp)]
  rw [e1] at HC HXL
  rw [h1] at HIH
  dsimp only at HC HXL
  generalize zeroK = x at HC HXL
  clear hW0 hn hnh hny h hh hK hy h1 e1
  go_enter Tryz.func6, Tryz.ntmps6
  go_wp2_with (first
    | (go_at_call 25; rw [← HW0.out]; (with_reducible refine (HA.out _ D0.out).mono ?_); rintro e w1 ⟨rfl, hb⟩; have D1 := Lib.hid (bel_on D0.out hb); have N1 := Lib.hid (N0.out.below' hb); clear hb)
    | (refine wpList_load_row rfl 24 (.tmp 9) rfl w.heap.size rfl 24 (cellsB nonce).toArray (0, 0) _ N1.out under_key rfl (cellsB_size _ HNL.out) ?_)
    | (go_at_call 18; (with_reducible refine (HC.out _ D1.out).mono ?_); rintro e w2 ⟨rfl, hb⟩; have D2 := Lib.hid (bel_on D1.out hb); have N2 := Lib.hid (N1.out.below' hb); clear hb)
    | ((first | rw [zero16] | skip); refine wpList_store_row rfl 24 (.tmp 14) (.tmp 31) rfl w2.heap.size (cellsB x).toArray rfl rfl 24 (cellsB zeroK).toArray (Blk.new w2 _ _) (cellsB_size _ HXL.out) (cellsB_sizes _ _ zeroK_length HXL.out) (cellsB_all _) ?_; obtain ⟨w3, hV⟩ : ∃ W, W = (w2.alloc (.cells (cellsB zeroK).toArray 24)).setRow w2.heap.size (cellsB x).toArray := ⟨_, rfl⟩; rw [← hV]; obtain ⟨hb, nb⟩ := keybox2_ _ _ _ _ hV; have D3 := Lib.hid (bel_on D2.out hb); have N3 := Lib.hid (N2.out.below' hb); have X3 := Lib.hid nb; clear hV hb nb)
    | (go_at_call 33; (with_reducible refine (HIH.out _ D3.out).mono ?_); rintro e w4 ⟨rfl, rfl⟩))
  go_ret
  exact ⟨rfl, D3.out⟩

set_option maxHeartbeats 4000000 in
set_option maxRecDepth 100000 in
theorem honest_early (l : List (List UInt8)) (A : Option Addr) (c : Nat) (at_ : Int) (half : List UInt8) (H : Option Addr) (ch : Nat) (nonce : List UInt8) (y : List UInt8) (Y : Option Addr) (cy : Nat) (need : Int) (w : World) {n nh ny : Nat} (hn : l.length = n) (hnh : half.length = nh) (hny : y.length = ny) (h : KR w A c l) (hh : BR w H ch half) (hK : nonce.length = 16) (hy : BR w Y cy y) (HA : Hid (∀ W, Below w.heap.size w W → Calls Tryz.prog 25 #[] W fun e w' => e = .returned (.bool true) ∧ Below W.heap.size W w')) (h1 : halfB half 1 = true) (hbad : copyB y nh = false ∨ (copyB y nh = true ∧ (n < 1 ∨ 128 < n ∨ at_ < 0 ∨ (n : Int) ≤ at_ ∨ need < 1 ∨ (ny : Int) < need))) :
    Calls Tryz.prog 6 #[.slice A n c, .int .i64 at_, .slice H nh ch, .agg (cellsB nonce).toArray, .slice Y ny cy, .int .i64 need] w fun e w' => e = .returned (.bool true) ∧ Below w.heap.size w w' := by
  have HC : Hid (∀ W, Below w.heap.size w W → Calls Tryz.prog 18 #[.slice H nh ch, .agg (cellsB nonce).toArray] W fun e w' => e = .returned (.tuple #[.agg (cellsB (cmS half nonce).1).toArray, .int .i64 (cmS half nonce).2]) ∧ Below W.heap.size W w') := fun W hW => Commit_any half nonce H ch W hnh hK (hh.below hW)
  have HIH : Hid (∀ W, Below w.heap.size w W → Calls Tryz.prog 33 #[.slice H nh ch] W fun e w' => e = .returned (.bool (halfB half 1)) ∧ W = w') := fun W hW => isHalf_any H ch half W hnh (hh.below hW)
  have HXL : Hid ((cmS half nonce).1.length = 16) := cmS_length _ _
  have e1 : cmS half nonce = (digS (openT half nonce), 0) := by unfold cmS; rw [if_pos h1]
  rw [e1] at HC HXL
  rw [h1] at HIH
  dsimp only at HC HXL
  have HIC : Hid (∀ W, Below w.heap.size w W → Calls Tryz.prog 34 #[.slice Y ny cy, .int .i64 (nh : Int)] W fun e w' => e = .returned (.bool (copyB y nh)) ∧ W = w') := fun W hW => refIsCopy_any Y cy y nh W hny (hy.below hW) (by have := hh.len; omega)
  have hnl : (n : Int) ≤ 140737488351232 := by have := h.len; omega
  have hhl : (nh : Int) ≤ 140737488351232 := by have := hh.len; omega
  have hyl : (ny : Int) ≤ 140737488351232 := by have := hy.len; omega
  obtain ⟨W0, hW0⟩ : ∃ W, W = w.alloc (.cells (cellsB nonce).toArray 24) := ⟨_, rfl⟩
  have D0 : Hid (Below w.heap.size w W0) := by unfold Hid; rw [hW0]; exact alloc_bel w _
  have N0 : Hid (Blk W0 w.heap.size 24 (cellsB nonce).toArray) := by unfold Hid; rw [hW0]; exact Blk.new w _ _
  have HW0 := Lib.hid hW0
  have HNL := Lib.hid hK
  generalize digS (openT half nonce) = x at HC HXL
  clear hW0 hn hnh hny h hh hK hy h1 e1
  rcases hbad with h2 | ⟨h2, h3⟩
  all_goals rw [h2] at HIC
  · clear h2
    go_enter Tryz.func6, Tryz.ntmps6
    go_wp2_with (first
      | (go_at_call 25; rw [← HW0.out]; (with_reducible refine (HA.out _ D0.out).mono ?_); rintro e w1 ⟨rfl, hb⟩; have D1 := Lib.hid (bel_on D0.out hb); have N1 := Lib.hid (N0.out.below' hb); clear hb)
      | (refine wpList_load_row rfl 24 (.tmp 9) rfl w.heap.size rfl 24 (cellsB nonce).toArray (0, 0) _ N1.out under_key rfl (cellsB_size _ HNL.out) ?_)
      | (go_at_call 18; (with_reducible refine (HC.out _ D1.out).mono ?_); rintro e w2 ⟨rfl, hb⟩; have D2 := Lib.hid (bel_on D1.out hb); have N2 := Lib.hid (N1.out.below' hb); clear hb)
      | ((first | rw [zero16] | skip); refine wpList_store_row rfl 24 (.tmp 14) (.tmp 31) rfl w2.heap.size (cellsB x).toArray rfl rfl 24 (cellsB zeroK).toArray (Blk.new w2 _ _) (cellsB_size _ HXL.out) (cellsB_sizes _ _ zeroK_length HXL.out) (cellsB_all _) ?_; obtain ⟨w3, hV⟩ : ∃ W, W = (w2.alloc (.cells (cellsB zeroK).toArray 24)).setRow w2.heap.size (cellsB x).toArray := ⟨_, rfl⟩; rw [← hV]; obtain ⟨hb, nb⟩ := keybox2_ _ _ _ _ hV; have D3 := Lib.hid (bel_on D2.out hb); have N3 := Lib.hid (N2.out.below' hb); have X3 := Lib.hid nb; clear hV hb nb)
      | (go_at_call 33; (with_reducible refine (HIH.out _ D3.out).mono ?_); rintro e w4 ⟨rfl, rfl⟩)
      | (go_at_call 34; (with_reducible refine (HIC.out _ D3.out).mono ?_); rintro e w5 ⟨rfl, rfl⟩))
    all_goals first | omega | (go_ret; exact ⟨rfl, D3.out⟩)
  · have h4 : (n : Int) < 1 ∨ 128 < (n : Int) ∨ at_ < 0 ∨ (n : Int) ≤ at_ ∨ need < 1 ∨ (ny : Int) < need := by omega
    clear h2 h3
    go_enter Tryz.func6, Tryz.ntmps6
    go_wp2_with (first
      | (go_at_call 25; rw [← HW0.out]; (with_reducible refine (HA.out _ D0.out).mono ?_); rintro e w1 ⟨rfl, hb⟩; have D1 := Lib.hid (bel_on D0.out hb); have N1 := Lib.hid (N0.out.below' hb); clear hb)
      | (refine wpList_load_row rfl 24 (.tmp 9) rfl w.heap.size rfl 24 (cellsB nonce).toArray (0, 0) _ N1.out under_key rfl (cellsB_size _ HNL.out) ?_)
      | (go_at_call 18; (with_reducible refine (HC.out _ D1.out).mono ?_); rintro e w2 ⟨rfl, hb⟩; have D2 := Lib.hid (bel_on D1.out hb); have N2 := Lib.hid (N1.out.below' hb); clear hb)
      | ((first | rw [zero16] | skip); refine wpList_store_row rfl 24 (.tmp 14) (.tmp 31) rfl w2.heap.size (cellsB x).toArray rfl rfl 24 (cellsB zeroK).toArray (Blk.new w2 _ _) (cellsB_size _ HXL.out) (cellsB_sizes _ _ zeroK_length HXL.out) (cellsB_all _) ?_; obtain ⟨w3, hV⟩ : ∃ W, W = (w2.alloc (.cells (cellsB zeroK).toArray 24)).setRow w2.heap.size (cellsB x).toArray := ⟨_, rfl⟩; rw [← hV]; obtain ⟨hb, nb⟩ := keybox2_ _ _ _ _ hV; have D3 := Lib.hid (bel_on D2.out hb); have N3 := Lib.hid (N2.out.below' hb); have X3 := Lib.hid nb; clear hV hb nb)
      | (go_at_call 33; (with_reducible refine (HIH.out _ D3.out).mono ?_); rintro e w4 ⟨rfl, rfl⟩)
      | (go_at_call 34; (with_reducible refine (HIC.out _ D3.out).mono ?_); rintro e w5 ⟨rfl, rfl⟩))
    all_goals first | omega | (go_ret; exact ⟨rfl, D3.out⟩)

set_option maxHeartbeats 8000000 in
set_option maxRecDepth 100000 in
theorem honest_good (l : List (List UInt8)) (A : Option Addr) (c : Nat) (at_ : Int) (half : List UInt8) (H : Option Addr) (ch : Nat) (nonce : List UInt8) (y : List UInt8) (Y : Option Addr) (cy : Nat) (need : Int) (w : World) {n nh ny : Nat} (hn : l.length = n) (hnh : half.length = nh) (hny : y.length = ny) (h : KR w A c l) (hh : BR w H ch half) (hK : nonce.length = 16) (hy : BR w Y cy y) (HA : Hid (∀ W, Below w.heap.size w W → Calls Tryz.prog 25 #[] W fun e w' => e = .returned (.bool true) ∧ Below W.heap.size W w')) (j : Nat) (h1 : halfB half 1 = true) (hc : copyB y nh = true) (hn1 : 1 ≤ n) (h128 : n ≤ 128) (hj : j < n) (hd1 : 1 ≤ need) (hd2 : need ≤ (ny : Int)) (hT : TestsIn w) (vd : Int) (hvd : (need ≤ (agreeN half y ny : Int) ∧ vd = 3) ∨ ((agreeN half y ny : Int) < need ∧ vd = 4)) :
    Calls Tryz.prog 6 #[.slice A n c, .int .i64 (j : Int), .slice H nh ch, .agg (cellsB nonce).toArray, .slice Y ny cy, .int .i64 need] w fun e w' => e = .returned (.bool true) ∧ Below w.heap.size w w' := by
  have hHY : ny = nh := by
    have hcc : y.length = half.length ∧ symB y 2 = true := by rw [← hnh] at hc; simpa [copyB] using hc
    omega
  subst hHY
  have HC : Hid (∀ W, Below w.heap.size w W → Calls Tryz.prog 18 #[.slice H ny ch, .agg (cellsB nonce).toArray] W fun e w' => e = .returned (.tuple #[.agg (cellsB (cmS half nonce).1).toArray, .int .i64 (cmS half nonce).2]) ∧ Below W.heap.size W w') := fun W hW => Commit_any half nonce H ch W hnh hK (hh.below hW)
  have HIH : Hid (∀ W, Below w.heap.size w W → Calls Tryz.prog 33 #[.slice H ny ch] W fun e w' => e = .returned (.bool (halfB half 1)) ∧ W = w') := fun W hW => isHalf_any H ch half W hnh (hh.below hW)
  have HXL : Hid ((cmS half nonce).1.length = 16) := cmS_length _ _
  have e1 : cmS half nonce = (digS (openT half nonce), 0) := by unfold cmS; rw [if_pos h1]
  rw [e1] at HC HXL
  rw [h1] at HIH
  dsimp only at HC HXL
  have HIC : Hid (∀ W, Below w.heap.size w W → Calls Tryz.prog 34 #[.slice Y ny cy, .int .i64 (ny : Int)] W fun e w' => e = .returned (.bool (copyB y ny)) ∧ W = w') := fun W hW => refIsCopy_any Y cy y ny W hny (hy.below hW) (by have := hh.len; omega)
  have hnl : (n : Int) ≤ 140737488351232 := by have := h.len; omega
  have hhl : (ny : Int) ≤ 140737488351232 := by have := hh.len; omega
  have hyl : (ny : Int) ≤ 140737488351232 := by have := hy.len; omega
  obtain ⟨W0, hW0⟩ : ∃ W, W = w.alloc (.cells (cellsB nonce).toArray 24) := ⟨_, rfl⟩
  have D0 : Hid (Below w.heap.size w W0) := by unfold Hid; rw [hW0]; exact alloc_bel w _
  have N0 : Hid (Blk W0 w.heap.size 24 (cellsB nonce).toArray) := by unfold Hid; rw [hW0]; exact Blk.new w _ _
  have HW0 := Lib.hid hW0
  have HNL := Lib.hid hK
  have hcc : y.length = half.length ∧ symB y 2 = true := by rw [← hnh] at hc; simpa [copyB] using hc
  have hjn : (j : Int) < n := by omega
  have hj0 : (0 : Int) ≤ j := by omega
  have hn1i : (1 : Int) ≤ n := by omega
  have hn2i : (n : Int) ≤ 128 := by omega
  have hny64 : (ny : Int) ≤ 64 := by have := (halfB_iff.1 h1).1.2; omega
  rw [hc] at HIC
  obtain ⟨L, hL⟩ : ∃ L, L = l.set j (digS (openT half nonce)) := ⟨_, rfl⟩
  have hLl : L.length = n := by rw [hL, List.length_set, hn]
  have HJV : Hid (judgeS (honV L n j (digS (openT half nonce)) y need half nonce) = (vd, 0)) := by
    unfold Hid
    have := honest_plain hn hj h128 h1 (nonce := nonce) (need := need) (y := y) (by rw [hnh]; exact hc) hd1 (by rw [hny]; exact hd2)
    rw [hL, this, hny]
    rcases hvd with ⟨g1, rfl⟩ | ⟨g1, rfl⟩
    · rw [if_pos g1]
    · rw [if_neg (by omega)]
  have HRT : Hid (∀ W B' b', KR W B' b' L → Calls Tryz.prog 27 #[.slice B' n b'] W fun e w' => e = .returned (.tuple #[.agg (cellsB (rootS L)).toArray, .int .i64 0]) ∧ Below W.heap.size W w') := fun W B' b' hb => by
    have := Root_any L B' b' W hLl hb
    have e1 : rtS L = (rootS L, 0) := by unfold rtS; rw [if_neg (by omega)]
    rwa [e1] at this
  have HRL : Hid ((rootS L).length = 16) := rootS_length _
  have HP : Hid (∀ W B' b', KR W B' b' L → Calls Tryz.prog 26 #[.slice B' n b', .int .i64 (j : Int)] W fun e w' => (∃ PA pc, e = .returned (.tuple #[.agg #[.int .i64 (n : Int), .int .i64 (j : Int), .slice PA (pathS L j).length pc], .int .i64 0]) ∧ KR w' PA pc (pathS L j)) ∧ Below W.heap.size W w') := fun W B' b' hb => (Prove_any L j B' b' W hLl hb).mono fun e w' hh => by
    have e1 : proveS L j = ⟨n, j, pathS L j, 0⟩ := by unfold proveS; rw [if_neg (by omega), if_neg (by omega), hLl, Int.toNat_natCast]
    rw [e1] at hh
    obtain ⟨⟨A', c', he, ho⟩, hbb⟩ := hh
    exact ⟨⟨A', c', he, ho.kr (pathS_k16_ n L j hLl) (by have := pathS_kle_ n L j hLl; dsimp only; omega)⟩, hbb⟩
  have HSA : Hid (∀ (b0 : Nat) W B' b', OK16 b0 W B' b' l → ∃ g, B' = some ⟨g, 0, none⟩ ∧ b0 ≤ g ∧ W.there g (j * 16) (cellsB (digS (openT half nonce))).toArray.size ∧ KR (W.setCells g (j * 16) (cellsB (digS (openT half nonce)))) (some ⟨g, 0, none⟩) b' L) := fun b0 W B' b' hb => by rw [hL]; exact hb.setAt h.2 (by omega) (digS_length _) h.len
  have HJ : Hid (∀ W PA pc, Below w.heap.size w W → KR W PA pc (pathS L j) → Calls Tryz.prog 23 #[.agg (caseC (⟨rootS L, digS (openT half nonce), n, j, pathS L j, y, need, true, half, nonce⟩ : CV) PA (pathS L j).length pc Y ny cy H ny ch).toArray] W fun e w' => e = .returned (.tuple #[.int .u8 vd, .int .i64 0]) ∧ Below W.heap.size W w') := fun W PA pc hW hp => by
    have := Judge_any (honV L n j (digS (openT half nonce)) y need half nonce) PA (pathS L j).length pc Y ny cy H ny ch W ⟨rootS_length _, digS_length _, hK, rfl, hny, hnh, hp, hy.below hW, hh.below hW⟩ (range_below hT hW)
    have e9 : judgeS (honV L n j (digS (openT half nonce)) y need half nonce) = (vd, 0) := HJV.out
    rw [e9] at this
    exact this
  have HYC : Hid (∃ yb yo, Y = some ⟨yb, yo, none⟩ ∧ ∀ W, Below w.heap.size w W → ∀ i, i < ny → W.cell? ⟨yb, yo + i, none⟩ = some (.int .u8 (bt y i : Int))) := by
    obtain ⟨yb, yo, hY, _, _⟩ := hy.at_ (i := 0) (by omega)
    refine ⟨yb, yo, hY, fun W hW i hi => ?_⟩
    obtain ⟨b', o', e, _, hcx⟩ := (hy.below hW).at_ (i := i) (by omega)
    rw [hY] at e
    injection e with e
    injection e with e1 e2
    subst e1 e2
    exact hcx
  have HHC : Hid (∃ yb yo, H = some ⟨yb, yo, none⟩ ∧ ∀ W, Below w.heap.size w W → ∀ i, i < ny → W.cell? ⟨yb, yo + i, none⟩ = some (.int .u8 (bt half i : Int))) := by
    obtain ⟨yb, yo, hY, _, _⟩ := hh.at_ (i := 0) (by omega)
    refine ⟨yb, yo, hY, fun W hW i hi => ?_⟩
    obtain ⟨b', o', e, _, hcx⟩ := (hh.below hW).at_ (i := i) (by omega)
    rw [hY] at e
    injection e with e
    injection e with e1 e2
    subst e1 e2
    exact hcx
  obtain ⟨yb, yo, rfl, hyc⟩ := HYC.out
  obtain ⟨hb0, ho0, rfl, hhc⟩ := HHC.out
  have YC := Lib.hid hyc
  have HHD := Lib.hid hhc
  have HKL := Lib.hid h
  have HNN := Lib.hid hn
  have HK16 : Hid (Keys16 l) := h.2
  clear HYC HHC hyc hhc HJV
  generalize digS (openT half nonce) = x at HC HXL HSA HJ
  generalize rootS L = R at HRT HRL HJ
  generalize hP : pathS L j = PP at HP HJ
  have HPP := Lib.hid hP
  obtain ⟨pm, hpm⟩ : ∃ m, PP.length = m := ⟨_, rfl⟩
  rw [hpm] at HP HJ
  have HCV : Hid (∀ PA pc, (caseC (⟨R, x, n, j, PP, y, need, true, half, nonce⟩ : CV) PA pm pc (some ⟨yb, yo, none⟩) ny cy (some ⟨hb0, ho0, none⟩) ny ch).toArray = (caseC (⟨R, x, n, j, PP, y, need, true, half, nonce⟩ : CV) PA pm pc (some ⟨yb, yo, none⟩) ny cy (some ⟨hb0, ho0, none⟩) ny ch).toArray) := fun _ _ => rfl
  clear hW0 hn hny hnh h hh hK hy h1 hc hn1 h128 hj hT hL hLl hP hpm e1
  go_enter Tryz.func6, Tryz.ntmps6
  go_wp2_with (first
    | (go_at_call 25; rw [← HW0.out]; (with_reducible refine (HA.out _ D0.out).mono ?_); rintro e w1 ⟨rfl, hb⟩; have D1 := Lib.hid (bel_on D0.out hb); have N1 := Lib.hid (N0.out.below' hb); clear hb)
    | (refine wpList_load_row rfl 24 (.tmp 9) rfl w.heap.size rfl 24 (cellsB nonce).toArray (0, 0) _ N1.out under_key rfl (cellsB_size _ HNL.out) ?_)
    | (go_at_call 18; (with_reducible refine (HC.out _ D1.out).mono ?_); rintro e w2 ⟨rfl, hb⟩; have D2 := Lib.hid (bel_on D1.out hb); have N2 := Lib.hid (N1.out.below' hb); clear hb)
    | ((first | rw [zero16] | skip); refine wpList_store_row rfl 24 (.tmp 14) (.tmp 31) rfl w2.heap.size (cellsB x).toArray rfl rfl 24 (cellsB zeroK).toArray (Blk.new w2 _ _) (cellsB_size _ HXL.out) (cellsB_sizes _ _ zeroK_length HXL.out) (cellsB_all _) ?_; obtain ⟨w3, hV⟩ : ∃ W, W = (w2.alloc (.cells (cellsB zeroK).toArray 24)).setRow w2.heap.size (cellsB x).toArray := ⟨_, rfl⟩; rw [← hV]; obtain ⟨hb, nb⟩ := keybox2_ _ _ _ _ hV; have D3 := Lib.hid (bel_on D2.out hb); have N3 := Lib.hid (N2.out.below' hb); have X3 := Lib.hid nb; clear hV hb nb)
    | (go_at_call 33; (with_reducible refine (HIH.out _ D3.out).mono ?_); rintro e w4 ⟨rfl, rfl⟩)
    | (go_at_call 34; (with_reducible refine (HIC.out _ D3.out).mono ?_); rintro e w5 ⟨rfl, rfl⟩)
    | (at_builtin; refine wpList_append_keysE _ rfl (.tmp 77) (.tmp 78) rfl w3.heap.size (some ⟨w3.heap.size, 0, none⟩) 0 0 [] rfl rfl (OK16_lit0_ w3) A n c l HNN.out rfl (KR_src_ (HKL.out.below (bel_on D3.out (alloc_bel w3 _))) HNN.out) (by omega) (by simp) ?_; intro A5 c5 w5 ho5 hb5 hg5; obtain ⟨g, rfl, hg, hth, hkr⟩ := HSA.out _ _ _ _ ho5; have HTH := Lib.hid hth; have HKR := Lib.hid hkr; have HGG := Lib.hid hg; have E5 := Lib.hid ((alloc_bel w3 _).trans hb5); have X5 := Lib.hid (X3.out.below' E5.out); clear ho5 hb5 hg5 hth hkr hg; simp only [Nat.zero_add])
    | (refine wpList_load_row rfl 24 (.tmp 14) rfl w2.heap.size rfl 24 (cellsB x).toArray (0, 0) _ X5.out under_key rfl (cellsB_size _ HXL.out) ?_)
    | (refine wpList_store_mid rfl 24 (.tmp 83) (.tmp 82) rfl g (j * 16) (cellsB x).toArray rfl rfl HTH.out (cellsB_size _ HXL.out) (cellsB_all _) ?_; obtain ⟨w6, hV⟩ : ∃ W, W = w5.setCells g (j * 16) (cellsB x).toArray.toList := ⟨_, rfl⟩; rw [← hV]; have K6 : Hid (KR w6 (some ⟨g, 0, none⟩) c5 L) := (by unfold Hid; rw [hV]; exact HKR.out); have E6 : Below w3.heap.size w3 w6 := (by rw [hV]; exact below_setCells HGG.out _ _ E5.out); have D6 := Lib.hid (bel_on D3.out E6); have N6 := Lib.hid (N3.out.below' E6); have X6 := Lib.hid (X3.out.below' E6); clear hV E6)
    | (go_at_call 27; (with_reducible refine (HRT.out _ _ _ K6.out).mono ?_); rintro e w7 ⟨rfl, hb⟩; have D7 := Lib.hid (bel_on D6.out hb); have N7 := Lib.hid (N6.out.below' hb); have X7 := Lib.hid (X6.out.below' hb); have K7 := Lib.hid (K6.out.below hb); clear hb)
    | ((first | rw [zero16] | skip); refine wpList_store_row rfl 24 (.tmp 17) (.tmp 87) rfl w7.heap.size (cellsB R).toArray rfl rfl 24 (cellsB zeroK).toArray (Blk.new w7 _ _) (cellsB_size _ HRL.out) (cellsB_sizes _ _ zeroK_length HRL.out) (cellsB_all _) ?_; obtain ⟨w8, hV⟩ : ∃ W, W = (w7.alloc (.cells (cellsB zeroK).toArray 24)).setRow w7.heap.size (cellsB R).toArray := ⟨_, rfl⟩; rw [← hV]; obtain ⟨hb, nb⟩ := keybox2_ _ _ _ _ hV; have D8 := Lib.hid (bel_on D7.out hb); have N8 := Lib.hid (N7.out.below' hb); have X8 := Lib.hid (X7.out.below' hb); have K8 := Lib.hid (K7.out.below hb); have R8 := Lib.hid nb; clear hV hb nb)
    | (go_at_call 26; (with_reducible refine (HP.out _ _ _ K8.out).mono ?_); rintro e w9 ⟨⟨PA, pc, rfl, hp⟩, hb⟩; have D9 := Lib.hid (bel_on D8.out hb); have N9 := Lib.hid (N8.out.below' hb); have X9 := Lib.hid (X8.out.below' hb); have R9 := Lib.hid (R8.out.below' hb); have P9 := Lib.hid hp; clear hb hp)
    | (refine wpList_store_row rfl 27 (.tmp 19) (.tmp 93) rfl w9.heap.size #[.int .i64 (n : Int), .int .i64 (j : Int), .slice PA pm pc] rfl rfl 27 #[.int .i64 0, .int .i64 0, .slice none 0 0] (Blk.new w9 _ _) (by kernel_rfl) rfl (by simp [Value.oneCell']) ?_; obtain ⟨w10, hV⟩ : ∃ W, W = (w9.alloc (.cells #[.int .i64 0, .int .i64 0, .slice none 0 0] 27)).setRow w9.heap.size #[.int .i64 (n : Int), .int .i64 (j : Int), .slice PA pm pc] := ⟨_, rfl⟩; rw [← hV]; obtain ⟨hb, nb⟩ := keybox2_ _ _ _ _ hV; have D10 := Lib.hid (bel_on D9.out hb); have N10 := Lib.hid (N9.out.below' hb); have X10 := Lib.hid (X9.out.below' hb); have R10 := Lib.hid (R9.out.below' hb); have P10 := Lib.hid (P9.out.below hb); have Q10 := Lib.hid nb; clear hV hb nb)
    | (refine wpList_load_row rfl 24 (.tmp 17) rfl w7.heap.size rfl 24 (cellsB R).toArray (0, 0) _ R10.out under_key rfl (cellsB_size _ HRL.out) ?_)
    | (refine wpList_load_row rfl 24 (.tmp 14) rfl w2.heap.size rfl 24 (cellsB x).toArray (0, 0) _ X10.out under_key rfl (cellsB_size _ HXL.out) ?_)
    | (refine wpList_load_row rfl 27 (.tmp 19) rfl w9.heap.size rfl 27 #[.int .i64 (n : Int), .int .i64 (j : Int), .slice PA pm pc] (0, 0) _ Q10.out Tryz.underlying27 rfl (by kernel_rfl) ?_)
    | (refine wpList_load_row rfl 24 (.tmp 9) rfl w.heap.size rfl 24 (cellsB nonce).toArray (0, 0) _ N10.out under_key rfl (cellsB_size _ HNL.out) ?_)
    | (refine wpList_build_case rfl #[(0, .tmp 96), (1, .tmp 97), (2, .tmp 98), (3, .tmp 99), (4, .tmp 100), (5, .const (.bool true)), (6, .tmp 101), (7, .tmp 102)] rfl (some 103) rfl (⟨R, x, n, j, PP, y, need, true, half, nonce⟩ : CV) PA pm pc (some ⟨yb, yo, none⟩) ny cy (some ⟨hb0, ho0, none⟩) ny ch HRL.out HXL.out HNL.out (by kernel_rfl) ?_)
    | (go_at_call 23; (with_reducible refine (HJ.out _ PA pc D10.out P10.out).mono ?_); rintro e w11 ⟨rfl, hb⟩; have D11 := Lib.hid (bel_on D10.out hb); clear hb))
  all_goals first | omega | skip
  go_loopw [23, 24] (fun vn vi wr => ∃ i : Nat, i ≤ ny ∧ vi = .int .i64 (i : Int) ∧ vn = .int .i64 (agreeN half y i : Int) ∧ Below w11.heap.size w11 wr) (fun _ vi _ => ny - (intOf vi).toNat)
  case atStart => exact ⟨0, by omega, rfl, rfl, Below.refl _ _⟩
  case round =>
    obtain ⟨i, hi, rfl, rfl, hbel⟩ := hrel
    have hal := agreeN_le half y i
    by_cases hlt : i < ny
    · have hii : (i : Int) < ny := by omega
      have hi0 : (0 : Int) ≤ i := by omega
      have D12 := Lib.hid (bel_on D11.out hbel)
      have YI : Hid (∀ W, Below wr.heap.size wr W → W.cell? ⟨yb, yo + i, none⟩ = some (.int .u8 (bt y i : Int))) := fun W hW => YC.out W (bel_on D12.out hW) i hlt
      have HI : Hid (∀ W, Below wr.heap.size wr W → W.cell? ⟨hb0, ho0 + i, none⟩ = some (.int .u8 (bt half i : Int))) := fun W hW => HHD.out W (bel_on D12.out hW) i hlt
      have HST := Lib.hid (agreeN_yes (x := half) (y := y) (i := i))
      have HSF := Lib.hid (agreeN_no (x := half) (y := y) (i := i))
      have HBI := Lib.hid hbel
      by_cases he : bt half i = bt y i
      · have HE := Lib.hid (HST.out he)
        have hd : (bt y i : Int) = (bt half i : Int) := by omega
        rw [hd] at YI
        generalize (bt half i : Int) = z at YI HI
        clear he hd HST HSF hbel
        go_wp2_with fail
        have HS : Hid (∀ W, Below wr.heap.size wr W → W.cell? ⟨yb, yo + i, none⟩ = some (.int .u8 z) ∧ W.cell? ⟨hb0, ho0 + i, none⟩ = some (.int .u8 z)) := fun W hW => ⟨YI.out W hW, HI.out W hW⟩
        have E0 : Below wr.heap.size wr wr := Below.refl _ _
        refine wp_region_noPanic ?_
        refine wp_region_held_drew (S := fun W => W.cell? ⟨yb, yo + i, none⟩ = some (.int .u8 z) ∧ W.cell? ⟨hb0, ho0 + i, none⟩ = some (.int .u8 z)) (by kernel_rfl) (HS.out _ E0.drew) (fun hS => ?_)
        have E0 := E0.drew
        refine hd_take 0 (_) rfl rfl (by kernel_rfl) (by kernel_rfl) (by kernel_rfl) (fun _ _ _ h => h) (fun w hw => by go_simp <;> rfl) hS ?_
        simp only [List.getElem_toArray, List.getElem_cons_succ, List.getElem_cons_zero, Act.put, List.setIfInBounds_toArray, List.set_cons_zero, List.set_cons_succ]
        refine hd_take 1 (_) rfl rfl (by kernel_rfl) (by kernel_rfl) (by kernel_rfl) (fun _ _ _ h => h) (fun w hw => by go_simp <;> rfl) hS ?_
        simp only [List.getElem_toArray, List.getElem_cons_succ, List.getElem_cons_zero, Act.put, List.setIfInBounds_toArray, List.set_cons_zero, List.set_cons_succ]
        refine hd_take 4 (_) rfl rfl (by kernel_rfl) (by kernel_rfl) (by kernel_rfl) (fun _ _ _ h => h) (fun w hw => by go_simp <;> rfl) hS ?_
        simp only [List.getElem_toArray, List.getElem_cons_succ, List.getElem_cons_zero, Act.put, List.setIfInBounds_toArray, List.set_cons_zero, List.set_cons_succ]
        refine hd_take 5 (_) rfl rfl (by kernel_rfl) (by kernel_rfl) (by kernel_rfl) (fun _ _ _ h => h) (fun w hw => by go_simp <;> rfl) hS ?_
        simp only [List.getElem_toArray, List.getElem_cons_succ, List.getElem_cons_zero, Act.put, List.setIfInBounds_toArray, List.set_cons_zero, List.set_cons_succ]
        refine hd_take 2 (_) rfl rfl (by kernel_rfl) (by kernel_rfl) (by kernel_rfl) (fun _ _ _ h => h) (fun w hw => by go_simp <;> rfl) hS ?_
        simp only [List.getElem_toArray, List.getElem_cons_succ, List.getElem_cons_zero, Act.put, List.setIfInBounds_toArray, List.set_cons_zero, List.set_cons_succ]
        refine hd_take 6 (_) rfl rfl (by kernel_rfl) (by kernel_rfl) (by kernel_rfl) (fun _ _ _ h => h) (fun w hw => by go_simp <;> rfl) hS ?_
        simp only [List.getElem_toArray, List.getElem_cons_succ, List.getElem_cons_zero, Act.put, List.setIfInBounds_toArray, List.set_cons_zero, List.set_cons_succ]
        refine hd_take 3 (.int .u8 z) rfl rfl (by kernel_rfl) (by kernel_rfl) (by kernel_rfl) (fun _ _ _ h => h) (fun w hw => by have hx := hw.1; simp [go_sem, hx]) hS ?_
        simp only [List.getElem_toArray, List.getElem_cons_succ, List.getElem_cons_zero, Act.put, List.setIfInBounds_toArray, List.set_cons_zero, List.set_cons_succ]
        refine hd_take 7 (.int .u8 z) rfl rfl (by kernel_rfl) (by kernel_rfl) (by kernel_rfl) (fun _ _ _ h => h) (fun w hw => by have hx := hw.2; simp [go_sem, hx]) hS ?_
        simp only [List.getElem_toArray, List.getElem_cons_succ, List.getElem_cons_zero, Act.put, List.setIfInBounds_toArray, List.set_cons_zero, List.set_cons_succ]
        refine hd_take 8 (.bool true) rfl rfl (by kernel_rfl) (by kernel_rfl) (by kernel_rfl) (fun _ _ _ h => h) (fun w hw => by simp [go_sem]) hS ?_
        simp only [List.getElem_toArray, List.getElem_cons_succ, List.getElem_cons_zero, Act.put, List.setIfInBounds_toArray, List.set_cons_zero, List.set_cons_succ]
        refine wpAnyH_done (by kernel_rfl) (NoPanic.normal ?_) _
        have E9 := Lib.hid (bel_on HBI.out E0)
        clear hS HS E0 YI HI HBI
        go_wp2_with fail
        go_roundw
        case rel => exact ⟨i + 1, by omega, by go_num, by rw [HE.out]; go_num, E9.out⟩
        case measure => simp [intOf]; omega
      · have HE := Lib.hid (HSF.out he)
        have hd : ¬ (bt y i : Int) = (bt half i : Int) := by omega
        generalize (bt half i : Int) = z at YI HI hd
        generalize (bt y i : Int) = z' at YI hd
        clear he HST HSF hbel
        go_wp2_with fail
        have HS : Hid (∀ W, Below wr.heap.size wr W → W.cell? ⟨yb, yo + i, none⟩ = some (.int .u8 z') ∧ W.cell? ⟨hb0, ho0 + i, none⟩ = some (.int .u8 z)) := fun W hW => ⟨YI.out W hW, HI.out W hW⟩
        have E0 : Below wr.heap.size wr wr := Below.refl _ _
        refine wp_region_noPanic ?_
        refine wp_region_held_drew (S := fun W => W.cell? ⟨yb, yo + i, none⟩ = some (.int .u8 z') ∧ W.cell? ⟨hb0, ho0 + i, none⟩ = some (.int .u8 z)) (by kernel_rfl) (HS.out _ E0.drew) (fun hS => ?_)
        have E0 := E0.drew
        refine hd_take 0 (_) rfl rfl (by kernel_rfl) (by kernel_rfl) (by kernel_rfl) (fun _ _ _ h => h) (fun w hw => by go_simp <;> rfl) hS ?_
        simp only [List.getElem_toArray, List.getElem_cons_succ, List.getElem_cons_zero, Act.put, List.setIfInBounds_toArray, List.set_cons_zero, List.set_cons_succ]
        refine hd_take 1 (_) rfl rfl (by kernel_rfl) (by kernel_rfl) (by kernel_rfl) (fun _ _ _ h => h) (fun w hw => by go_simp <;> rfl) hS ?_
        simp only [List.getElem_toArray, List.getElem_cons_succ, List.getElem_cons_zero, Act.put, List.setIfInBounds_toArray, List.set_cons_zero, List.set_cons_succ]
        refine hd_take 4 (_) rfl rfl (by kernel_rfl) (by kernel_rfl) (by kernel_rfl) (fun _ _ _ h => h) (fun w hw => by go_simp <;> rfl) hS ?_
        simp only [List.getElem_toArray, List.getElem_cons_succ, List.getElem_cons_zero, Act.put, List.setIfInBounds_toArray, List.set_cons_zero, List.set_cons_succ]
        refine hd_take 5 (_) rfl rfl (by kernel_rfl) (by kernel_rfl) (by kernel_rfl) (fun _ _ _ h => h) (fun w hw => by go_simp <;> rfl) hS ?_
        simp only [List.getElem_toArray, List.getElem_cons_succ, List.getElem_cons_zero, Act.put, List.setIfInBounds_toArray, List.set_cons_zero, List.set_cons_succ]
        refine hd_take 2 (_) rfl rfl (by kernel_rfl) (by kernel_rfl) (by kernel_rfl) (fun _ _ _ h => h) (fun w hw => by go_simp <;> rfl) hS ?_
        simp only [List.getElem_toArray, List.getElem_cons_succ, List.getElem_cons_zero, Act.put, List.setIfInBounds_toArray, List.set_cons_zero, List.set_cons_succ]
        refine hd_take 6 (_) rfl rfl (by kernel_rfl) (by kernel_rfl) (by kernel_rfl) (fun _ _ _ h => h) (fun w hw => by go_simp <;> rfl) hS ?_
        simp only [List.getElem_toArray, List.getElem_cons_succ, List.getElem_cons_zero, Act.put, List.setIfInBounds_toArray, List.set_cons_zero, List.set_cons_succ]
        refine hd_take 3 (.int .u8 z') rfl rfl (by kernel_rfl) (by kernel_rfl) (by kernel_rfl) (fun _ _ _ h => h) (fun w hw => by have hx := hw.1; simp [go_sem, hx]) hS ?_
        simp only [List.getElem_toArray, List.getElem_cons_succ, List.getElem_cons_zero, Act.put, List.setIfInBounds_toArray, List.set_cons_zero, List.set_cons_succ]
        refine hd_take 7 (.int .u8 z) rfl rfl (by kernel_rfl) (by kernel_rfl) (by kernel_rfl) (fun _ _ _ h => h) (fun w hw => by have hx := hw.2; simp [go_sem, hx]) hS ?_
        simp only [List.getElem_toArray, List.getElem_cons_succ, List.getElem_cons_zero, Act.put, List.setIfInBounds_toArray, List.set_cons_zero, List.set_cons_succ]
        refine hd_take 8 (.bool false) rfl rfl (by kernel_rfl) (by kernel_rfl) (by kernel_rfl) (fun _ _ _ h => h) (fun w hw => by simp [go_sem, hd]) hS ?_
        simp only [List.getElem_toArray, List.getElem_cons_succ, List.getElem_cons_zero, Act.put, List.setIfInBounds_toArray, List.set_cons_zero, List.set_cons_succ]
        refine wpAnyH_done (by kernel_rfl) (NoPanic.normal ?_) _
        have E9 := Lib.hid (bel_on HBI.out E0)
        clear hS HS E0 YI HI HBI hd
        go_wp2_with fail
        go_roundw
        case rel => exact ⟨i + 1, by omega, by go_num, by rw [HE.out], E9.out⟩
        case measure => simp [intOf]; omega
    · obtain rfl : i = ny := by omega
      have hii : (i : Int) ≤ i := Int.le_refl _
      have D12 := Lib.hid (bel_on D11.out hbel)
      generalize agreeN half y i = z at hvd hal
      clear hbel
      rcases hvd with ⟨g1, rfl⟩ | ⟨g1, rfl⟩
      · go_wp2_with fail
        all_goals first | omega | (go_ret; exact ⟨rfl, D12.out⟩)
      · go_wp2_with fail
        all_goals first | omega | (go_ret; exact ⟨rfl, D12.out⟩)

theorem auditHonest_walk (A : Option Addr) (c : Nat) (l : List (List UInt8)) (at_ : Int) (H : Option Addr) (ch : Nat) (half : List UInt8) (nonce : List UInt8) (Y : Option Addr) (cy : Nat) (y : List UInt8) (need : Int) (w : World) (h : KR w A c l) (hc : c * 16 ≤ 140737488351232) (_ : -9223372036854775808 ≤ at_) (_ : at_ ≤ 9223372036854775807) (hh : BR w H ch half) (hK : nonce.length = 16) (hy : BR w Y cy y) (_ : -9223372036854775808 ≤ need) (_ : need ≤ 9223372036854775807) (hT : TestsIn w) :
    Calls Tryz.prog 6 #[.slice A l.length c, .int .i64 at_, .slice H half.length ch, .agg (cellsB nonce).toArray, .slice Y y.length cy, .int .i64 need] w fun e w' => e = .returned (.bool true) ∧ Below w.heap.size w w' := by
  have HA : Hid (∀ W, Below w.heap.size w W → Calls Tryz.prog 25 #[] W fun e w' => e = .returned (.bool true) ∧ Below W.heap.size W w') := fun W hW => alive_any W (range_below hT hW)
  cases h1 : halfB half 1 with
  | false => exact honest_bad l A c at_ half H ch nonce y Y cy need w rfl rfl rfl h hh hK hy HA h1
  | true =>
    cases h2 : copyB y half.length with
    | false => exact honest_early l A c at_ half H ch nonce y Y cy need w rfl rfl rfl h hh hK hy HA h1 (.inl h2)
    | true =>
      by_cases hb : l.length < 1 ∨ 128 < l.length ∨ at_ < 0 ∨ (l.length : Int) ≤ at_ ∨ need < 1 ∨ (y.length : Int) < need
      · exact honest_early l A c at_ half H ch nonce y Y cy need w rfl rfl rfl h hh hK hy HA h1 (.inr ⟨h2, hb⟩)
      · obtain ⟨j, rfl⟩ : ∃ j : Nat, at_ = (j : Int) := ⟨at_.toNat, by omega⟩
        by_cases hx : need ≤ (agreeN half y y.length : Int)
        · exact honest_good l A c 0 half H ch nonce y Y cy need w rfl rfl rfl h hh hK hy HA j h1 h2 (by omega) (by omega) (by omega) (by omega) (by omega) hT 3 (.inl ⟨hx, rfl⟩)
        · exact honest_good l A c 0 half H ch nonce y Y cy need w rfl rfl rfl h hh hK hy HA j h1 h2 (by omega) (by omega) (by omega) (by omega) (by omega) hT 4 (.inr ⟨by omega, rfl⟩)
end Go.Proofs.YtinpiodfpnbllaaGreatDoor
