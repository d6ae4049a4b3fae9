/-
  Lemmas and contracts, joined: part 8.
-/
import Derived.Deep.QuietTactic
import Derived.BigQuiet
import Derived.Test.YtinpiodfpnbllaaAuditListsB7
set_option linter.unusedSimpArgs false
set_option linter.unusedVariables false
set_option linter.unnecessarySimpa false
/- Whether a revocation list is valid: the program's and the reference's. -/
namespace Go.Proofs.Ytinpiodfpnbllaa
open Go.RowKit
set_option linter.unusedVariables false
set_option linter.unusedSimpArgs false

set_option maxHeartbeats 4000000 in
set_option maxRecDepth 100000 in
theorem refValidList_any (es : List Ent) (A : Option Addr) (c : Nat) (w : World) {n : Nat} (hn : es.length = n) (h : ER w A c es) :
    Calls Try.prog 86 #[.slice A n c] w fun e w' => e = .returned (.bool (validL es)) ∧ Below w.heap.size w w' := by
  have hnl : (n : Int) ≤ 140737488351232 := by have := h.len; omega
  have HN := Lib.hid hn
  have H := Lib.hid h
  clear hn h
  go_enter Try.func86, Try.ntmps86
  go_wp2_with fail
  go_loopw [3] (fun vi wr => ∃ i : Nat, i ≤ n ∧ vi = .int .i64 (i : Int) ∧ Hid (validL (es.take i) = true) ∧ Below w.heap.size w wr) (fun vi _ => n - (intOf vi).toNat)
  case atStart => exact ⟨0, by omega, rfl, by unfold Hid; rfl, Below.refl _ _⟩
  case round =>
    obtain ⟨i, hi, rfl, HV, hbel⟩ := hrel
    by_cases hlt : i < n
    · have hii : (i : Int) < n := by omega
      have hil : i < es.length := by have := HN.out; omega
      have hcp := Rd.cap H.out
      have hle := Rd.le H.out
      obtain ⟨b, off, rfl, hb, hc0, hc1⟩ := (H.out.below hbel).at_ hil
      have HST := Lib.hid (validL_step hil HV.out)
      have HER := Lib.hid (H.out.below hbel)
      have hpv : i ≠ 0 → wr.cell? ⟨b, off + (i - 1) * 2, none⟩ = some (.int .i64 (es.getD (i - 1) (0, 0)).1) := fun h0 => by
        obtain ⟨b', off', e, _, hc, _⟩ := HER.out.at_ (i := i - 1) (by omega)
        injection e with e
        injection e with e1 e2
        subst e1 e2
        rw [hc, List.getD_eq_getElem?_getD, List.getElem?_eq_getElem (by omega)]; rfl
      have HPV := Lib.hid hpv
      obtain ⟨x, hx⟩ : ∃ x, es[i] = x := ⟨_, rfl⟩
      rw [hx] at hc0 hc1 HST
      obtain ⟨r, u⟩ := x
      obtain ⟨p, hp⟩ : ∃ p, (es.getD (i - 1) (0, 0)).1 = p := ⟨_, rfl⟩
      simp only [hp] at hpv HPV HST
      clear hpv hil hp hx hcp hle
      have HBAD : validL (es.take (i + 1)) = false → Hid (validL es = false) := fun hb => validL_bad hb
      have ways : r < 0 ∨ (0 ≤ r ∧ 64 ≤ r) ∨ (0 ≤ r ∧ r < 64 ∧ u < 0) ∨ (0 ≤ r ∧ r < 64 ∧ 0 ≤ u ∧ 1099511627776 < u) ∨ (0 ≤ r ∧ r < 64 ∧ 0 ≤ u ∧ u ≤ 1099511627776 ∧ i = 0) ∨ (0 ≤ r ∧ r < 64 ∧ 0 ≤ u ∧ u ≤ 1099511627776 ∧ 1 ≤ i ∧ r ≤ p) ∨ (0 ≤ r ∧ r < 64 ∧ 0 ≤ u ∧ u ≤ 1099511627776 ∧ 1 ≤ i ∧ p < r) := by omega
      simp only at hc0 hc1
      have HC0 := Lib.hid hc0
      have HC1 := Lib.hid hc1
      clear hc0 hc1
      rcases ways with h1 | ⟨h1, h2⟩ | ⟨h1, h2, h3⟩ | ⟨h1, h2, h3, h4⟩ | ⟨h1, h2, h3, h4, h5⟩ | ⟨h1, h2, h3, h4, h5, h6⟩ | ⟨h1, h2, h3, h4, h5, h6⟩
      · skip
        have s0 : decide (r < 0) = true := by simp; omega
        have HF := HBAD (step_bad HST.out (by omega))
        have c0 := HC0.out
        have c1 := HC1.out
        clear HBAD HST h1
        go_wp2_with fail
        go_quiet (fail)
        go_wp2_with fail
        go_ret
        exact ⟨by rw [HF.out]; rfl, below_drewN hbel _⟩
      · skip
        have s0 : decide (r < 0) = false := by simp; omega
        have s1 : decide (64 ≤ r) = true := by simp; omega
        have HF := HBAD (step_bad HST.out (by omega))
        have c0 := HC0.out
        have c1 := HC1.out
        clear HBAD HST h1 h2
        go_wp2_with fail
        go_quiet (fail)
        go_wp2_with fail
        go_ret
        exact ⟨by rw [HF.out]; rfl, below_drewN hbel _⟩
      · skip
        have s0 : decide (r < 0) = false := by simp; omega
        have s1 : decide (64 ≤ r) = false := by simp; omega
        have s2 : decide (u < 0) = true := by simp; omega
        have HF := HBAD (step_bad HST.out (by omega))
        have c0 := HC0.out
        have c1 := HC1.out
        clear HBAD HST h1 h2 h3
        go_wp2_with fail
        go_quiet (fail)
        go_wp2_with fail
        go_ret
        exact ⟨by rw [HF.out]; rfl, below_drewN hbel _⟩
      · skip
        have s0 : decide (r < 0) = false := by simp; omega
        have s1 : decide (64 ≤ r) = false := by simp; omega
        have s2 : decide (u < 0) = false := by simp; omega
        have s3 : decide (1099511627776 < u) = true := by simp; omega
        have HF := HBAD (step_bad HST.out (by omega))
        have c0 := HC0.out
        have c1 := HC1.out
        clear HBAD HST h1 h2 h3 h4
        go_wp2_with fail
        go_quiet (fail)
        go_wp2_with fail
        go_ret
        exact ⟨by rw [HF.out]; rfl, below_drewN hbel _⟩
      · skip
        have s0 : decide (r < 0) = false := by simp; omega
        have s1 : decide (64 ≤ r) = false := by simp; omega
        have s2 : decide (u < 0) = false := by simp; omega
        have s3 : decide (1099511627776 < u) = false := by simp; omega
        subst h5
        have s4 : decide ((0 : Int) < ((0 : Nat) : Int)) = false := by simp
        have s5 : decide ((0 : Nat) < 0) = false := by simp
        have HT := Lib.hid (step_good HST.out ⟨h1, h2, h3, h4⟩ (Or.inl rfl))
        have c0 := HC0.out
        have c1 := HC1.out
        simp only [Nat.zero_mul, Nat.add_zero] at c0 c1
        clear HBAD HST h1 h2 h3 h4
        go_wp2_with fail
        go_quiet (fail)
        go_wp2_with fail
        go_roundw
        case rel => exact ⟨0 + 1, by omega, by go_num, HT, below_drewN hbel _⟩
        case measure => simp [intOf]; omega
      · skip
        have s0 : decide (r < 0) = false := by simp; omega
        have s1 : decide (64 ≤ r) = false := by simp; omega
        have s2 : decide (u < 0) = false := by simp; omega
        have s3 : decide (1099511627776 < u) = false := by simp; omega
        have s4 : decide ((0 : Int) < (i : Int)) = true := by simp; omega
        have s5 : decide (0 < i) = true := by simp; omega
        have hpc : wr.cell? ⟨b, off + (i - 1) * 2, none⟩ = some (.int .i64 p) := HPV.out (by omega)
        have HPC := Lib.hid hpc
        clear hpc
        have hw1 : IntKind.i64.wrap ((i : Int) - 1) = (i : Int) - 1 := by rw [IntKind.wrap_i64]; omega
        have hw2 : (0 : Int) ≤ (i : Int) - 1 := by omega
        have hw3 : (i : Int) - 1 < (n : Int) := by omega
        have hw4 : ((i : Int) - 1).toNat = i - 1 := by omega
        have hw5 : (1 : Int) ≤ (i : Int) := by omega
        have s6 : decide (r ≤ p) = true := by simp; omega
        have HF := HBAD (step_low HST.out h5 h6)
        have c0 := HC0.out
        have c1 := HC1.out
        clear HBAD HST h1 h2 h3 h4 h5 h6
        have c2 := HPC.out
        go_wp2_with fail
        go_quiet (fail)
        go_wp2_with fail
        go_ret
        exact ⟨by rw [HF.out]; rfl, below_drewN hbel _⟩
      · skip
        have s0 : decide (r < 0) = false := by simp; omega
        have s1 : decide (64 ≤ r) = false := by simp; omega
        have s2 : decide (u < 0) = false := by simp; omega
        have s3 : decide (1099511627776 < u) = false := by simp; omega
        have s4 : decide ((0 : Int) < (i : Int)) = true := by simp; omega
        have s5 : decide (0 < i) = true := by simp; omega
        have hpc : wr.cell? ⟨b, off + (i - 1) * 2, none⟩ = some (.int .i64 p) := HPV.out (by omega)
        have HPC := Lib.hid hpc
        clear hpc
        have hw1 : IntKind.i64.wrap ((i : Int) - 1) = (i : Int) - 1 := by rw [IntKind.wrap_i64]; omega
        have hw2 : (0 : Int) ≤ (i : Int) - 1 := by omega
        have hw3 : (i : Int) - 1 < (n : Int) := by omega
        have hw4 : ((i : Int) - 1).toNat = i - 1 := by omega
        have hw5 : (1 : Int) ≤ (i : Int) := by omega
        have s6 : decide (r ≤ p) = false := by simp; omega
        have HT := Lib.hid (step_good HST.out ⟨h1, h2, h3, h4⟩ (Or.inr h6))
        have c0 := HC0.out
        have c1 := HC1.out
        clear HBAD HST h1 h2 h3 h4 h5 h6
        have c2 := HPC.out
        go_wp2_with fail
        go_quiet (fail)
        go_wp2_with fail
        go_roundw
        case rel => exact ⟨i + 1, by omega, by go_num, HT, below_drewN hbel _⟩
        case measure => simp [intOf]; omega
    · obtain rfl : i = n := by omega
      have hii : (i : Int) ≤ i := Int.le_refl _
      have HT : Hid (validL es = true) := by unfold Hid; have := HV.out; rwa [List.take_of_length_le (by have := HN.out; omega)] at this
      go_wp2_with fail
      go_ret
      exact ⟨by rw [HT.out]; rfl, hbel⟩
end Go.Proofs.Ytinpiodfpnbllaa

/- Merge, Prune, ListRoot, Leaf and CheckList: the reference's. -/
namespace Go.Proofs.Ytinpiodfpnbllaa
open Go.RowKit
set_option linter.unusedVariables false
set_option linter.unusedSimpArgs false
attribute [local go_sem] run_storeCells_key run_storeCells_new

def mgF (a b : List Ent) (u : Nat) : Option Ent := if 0 ≤ max (untilS a (u : Int)) (untilS b (u : Int)) then some ((u : Int), max (untilS a (u : Int)) (untilS b (u : Int))) else none
def mgT (a b : List Ent) (u : Nat) : List Ent := (List.range u).filterMap (mgF a b)
theorem mgT_64 (a b : List Ent) : mgT a b 64 = mergeS a b := rfl
theorem mgT_succ (a b : List Ent) (u : Nat) : mgT a b (u + 1) = mgT a b u ++ (mgF a b u).toList := by
  unfold mgT
  rw [List.range_succ, List.filterMap_append]
  cases h : mgF a b u <;> simp [h]
theorem mgT_le (a b : List Ent) (u : Nat) : (mgT a b u).length ≤ u := by unfold mgT; exact Nat.le_trans (List.length_filterMap_le _ _) (by simp)
theorem mgT_add {a b : List Ent} {u : Nat} {x y t : Int} (hx : untilS a (u : Int) = x) (hy : untilS b (u : Int) = y) (ht : max x y = t) (h0 : 0 ≤ t) : mgT a b (u + 1) = mgT a b u ++ [((u : Int), t)] := by
  rw [mgT_succ]; unfold mgF; rw [hx, hy, ht, if_pos h0]; rfl
theorem mgT_skip {a b : List Ent} {u : Nat} {x y t : Int} (hx : untilS a (u : Int) = x) (hy : untilS b (u : Int) = y) (ht : max x y = t) (h0 : ¬ 0 ≤ t) : mgT a b (u + 1) = mgT a b u := by
  rw [mgT_succ]; unfold mgF; rw [hx, hy, ht, if_neg h0]; simp

set_option maxHeartbeats 4000000 in
set_option maxRecDepth 100000 in
theorem refMerge_bad (a b : List Ent) (A X : Option Addr) (c d : Nat) (w : World) {n m : Nat} (hn : a.length = n) (hm : b.length = m) (h : ER w A c a) (h' : ER w X d b) (hv : validL a = false ∨ validL b = false) :
    Calls Try.prog 42 #[.slice A n c, .slice X m d] w fun e w' => LsEnd w.heap.size (mgS a b) e w' ∧ Below w.heap.size w w' := by
  have HS : Hid (mgS a b = ([], 90)) := by unfold Hid mgS; rw [if_pos hv]
  have HA : Hid (∀ W, Below w.heap.size w W → Calls Try.prog 86 #[.slice A n c] W fun e w' => e = .returned (.bool (validL a)) ∧ Below W.heap.size W w') := fun W hW => refValidList_any a A c W hn (h.below hW)
  have HB : Hid (∀ W, Below w.heap.size w W → Calls Try.prog 86 #[.slice X m d] W fun e w' => e = .returned (.bool (validL b)) ∧ Below W.heap.size W w') := fun W hW => refValidList_any b X d W hm (h'.below hW)
  have b0 := Below.refl w.heap.size w
  clear hn hm h h'
  cases ha : validL a with
  | false =>
    rw [ha] at HA
    clear hv ha
    go_enter Try.func42, Try.ntmps42
    go_wp2_with (go_at_call 86; refine (HA.out _ b0).mono ?_; rintro e w1 ⟨rfl, hb1⟩)
    go_ret2
    unfold LsEnd
    rw [HS.out]
    exact ⟨⟨none, 0, rfl, World.ownsRow_nil _ _ _ _⟩, hb1⟩
  | true =>
    have hb : validL b = false := by
      rcases hv with h | h
      · rw [h] at ha; cases ha
      · exact h
    rw [ha] at HA
    rw [hb] at HB
    have tok : True := trivial
    clear hv ha hb
    go_enter Try.func42, Try.ntmps42
    go_wp2_with (first | (go_at_call 86; have _t := tok; refine (HA.out _ b0).mono ?_; rintro e w1 ⟨rfl, hb1⟩; clear tok) | (go_at_call 86; refine (HB.out _ hb1).mono ?_; rintro e w2 ⟨rfl, hb2⟩; have D2 := bel_on hb1 hb2; clear hb2))
    go_ret2
    unfold LsEnd
    rw [HS.out]
    exact ⟨⟨none, 0, rfl, World.ownsRow_nil _ _ _ _⟩, D2⟩

set_option maxHeartbeats 8000000 in
set_option maxRecDepth 100000 in
theorem refMerge_good (a b : List Ent) (A X : Option Addr) (c d : Nat) (w : World) {n m : Nat} (hn : a.length = n) (hm : b.length = m) (h : ER w A c a) (h' : ER w X d b) (ha : validL a = true) (hb : validL b = true) :
    Calls Try.prog 42 #[.slice A n c, .slice X m d] w fun e w' => LsEnd w.heap.size (mgS a b) e w' ∧ Below w.heap.size w w' := by
  have HS : Hid (mgS a b = (mgT a b 64, 0)) := by unfold Hid mgS; rw [if_neg (by rw [ha, hb]; simp), mgT_64]
  have HA : Hid (∀ W, Below w.heap.size w W → Calls Try.prog 86 #[.slice A n c] W fun e w' => e = .returned (.bool true) ∧ Below W.heap.size W w') := fun W hW => by
    have := refValidList_any a A c W hn (h.below hW)
    rw [ha] at this
    exact this
  have HB : Hid (∀ W, Below w.heap.size w W → Calls Try.prog 86 #[.slice X m d] W fun e w' => e = .returned (.bool true) ∧ Below W.heap.size W w') := fun W hW => by
    have := refValidList_any b X d W hm (h'.below hW)
    rw [hb] at this
    exact this
  have HUA : Hid (∀ (u : Int) W, Below w.heap.size w W → Calls Try.prog 88 #[.slice A n c, .int .i64 u] W fun e w' => e = .returned (.int .i64 (untilS a u)) ∧ Below W.heap.size W w') := fun u W hW => refUntil_any a u A c W hn (h.below hW)
  have HUB : Hid (∀ (u : Int) W, Below w.heap.size w W → Calls Try.prog 88 #[.slice X m d, .int .i64 u] W fun e w' => e = .returned (.int .i64 (untilS b u)) ∧ Below W.heap.size W w') := fun u W hW => refUntil_any b u X d W hm (h'.below hW)
  have HC : Hid (∀ r u : Int, #[Value.int .i64 r, Value.int .i64 u] = (cellsE [(r, u)]).toArray) := fun _ _ => rfl
  have b0 := Below.refl w.heap.size w
  have tok : True := trivial
  clear hn hm h h' ha hb
  go_enter Try.func42, Try.ntmps42
  go_wp2_with (first | (go_at_call 86; have _t := tok; refine (HA.out _ b0).mono ?_; rintro e w1 ⟨rfl, hb1⟩; clear tok) | (go_at_call 86; refine (HB.out _ hb1).mono ?_; rintro e w2 ⟨rfl, hb2⟩; have D2 := bel_on hb1 hb2; clear hb2))
  go_loopw [6, 7] (fun vo vi wr => ∃ (u k : Nat) (A' : Option Addr) (c' : Nat), u ≤ 64 ∧ vi = .int .i64 (u : Int) ∧ vo = .slice A' k c' ∧ Hid ((mgT a b u).length = k) ∧ Hid (OE w.heap.size wr A' c' (mgT a b u)) ∧ Below w.heap.size w wr) (fun _ vi _ => 64 - (intOf vi).toNat)
  case atStart => exact ⟨0, 0, none, 0, by omega, rfl, rfl, rfl, World.ownsRow_nil _ _ _ _, D2⟩
  case round =>
    obtain ⟨u, k, A', c', hu, rfl, rfl, HK, HO, hbel⟩ := hrel
    have hk64 : k ≤ 64 := by have := mgT_le a b u; have := HK.out; omega
    by_cases hlt : u < 64
    · have hui : (u : Int) < 64 := by omega
      have HUA2 : Hid (∀ W, Below w.heap.size w W → Calls Try.prog 88 #[.slice A n c, .int .i64 (u : Int)] W fun e w' => e = .returned (.int .i64 (untilS a (u : Int))) ∧ Below W.heap.size W w') := fun W hW => HUA.out u W hW
      have HUB2 : Hid (∀ W, Below w.heap.size w W → Calls Try.prog 88 #[.slice X m d, .int .i64 (u : Int)] W fun e w' => e = .returned (.int .i64 (untilS b (u : Int))) ∧ Below W.heap.size W w') := fun W hW => HUB.out u W hW
      obtain ⟨x, hx⟩ : ∃ x, untilS a (u : Int) = x := ⟨_, rfl⟩
      obtain ⟨y, hy⟩ : ∃ y, untilS b (u : Int) = y := ⟨_, rfl⟩
      rw [hx] at HUA2
      rw [hy] at HUB2
      have HX := Lib.hid hx
      have HY := Lib.hid hy
      clear hx hy
      by_cases h0 : 0 ≤ max x y
      · have HT := Lib.hid (mgT_add HX.out HY.out rfl h0)
        have t0 : decide (0 ≤ max x y) = true := decide_eq_true h0
        clear h0
        go_wp2_with (first | (go_at_call 88; (with_reducible refine (HUA2.out _ hbel).mono ?_); rintro e w3 ⟨rfl, hb3⟩; have D3 := bel_on hbel hb3; have O3 := Lib.hid (HO.out.below hb3); clear hb3) | (go_at_call 88; (with_reducible refine (HUB2.out _ D3).mono ?_); rintro e w4 ⟨rfl, hb4⟩; have D4 := bel_on D3 hb4; have O4 := Lib.hid (O3.out.below hb4); clear hb4) | (at_builtin; rw [HC.out]; refine wpList_append_ents _ rfl (.tmp 30) (.tmp 34) rfl w.heap.size A' k c' (mgT a b u) HK.out rfl (O4.out.below (alloc_bel _ _)) (some ⟨w4.heap.size, 0, none⟩) 1 1 [((u : Int), (max x y))] rfl rfl (src_litE [((u : Int), (max x y))] rfl) (by omega) (Nat.le_trans D4.size (by simp)) ?_; intro A5 c5 w5 ho5 hb5 hg5; have O5 := Lib.hid ho5; have D5 := (D4.alloc D4.size (.cells (cellsE [((u : Int), (max x y))]).toArray 79)).trans hb5; clear ho5 hb5 hg5))
        go_roundw
        case rel => exact ⟨u + 1, k + 1, A5, c5, by omega, by go_num, rfl, by unfold Hid; rw [HT.out, List.length_append, HK.out]; rfl, by rw [HT.out]; exact O5.out, D5⟩
        case measure => simp [intOf]; omega
      · have HT := Lib.hid (mgT_skip HX.out HY.out rfl h0)
        have t0 : decide (0 ≤ max x y) = false := decide_eq_false h0
        clear h0
        go_wp2_with (first | (go_at_call 88; (with_reducible refine (HUA2.out _ hbel).mono ?_); rintro e w3 ⟨rfl, hb3⟩; have D3 := bel_on hbel hb3; have O3 := Lib.hid (HO.out.below hb3); clear hb3) | (go_at_call 88; (with_reducible refine (HUB2.out _ D3).mono ?_); rintro e w4 ⟨rfl, hb4⟩; have D4 := bel_on D3 hb4; have O4 := Lib.hid (O3.out.below hb4); clear hb4))
        go_roundw
        case rel => exact ⟨u + 1, k, A', c', by omega, by go_num, rfl, by unfold Hid; rw [HT.out]; exact HK.out, by rw [HT.out]; exact O4.out, D4⟩
        case measure => simp [intOf]; omega
    · obtain rfl : u = 64 := by omega
      go_wp2_with fail
      go_ret2
      unfold LsEnd
      rw [HS.out]
      exact ⟨⟨A', c', by rw [HK.out]; rfl, HO.out⟩, hbel⟩
theorem refMerge_any (a b : List Ent) (A X : Option Addr) (c d : Nat) (w : World) {n m : Nat} (hn : a.length = n) (hm : b.length = m) (h : ER w A c a) (h' : ER w X d b) :
    Calls Try.prog 42 #[.slice A n c, .slice X m d] w fun e w' => LsEnd w.heap.size (mgS a b) e w' ∧ Below w.heap.size w w' := by
  by_cases hv : validL a = false ∨ validL b = false
  · exact refMerge_bad a b A X c d w hn hm h h' hv
  · rw [not_or, Bool.not_eq_false, Bool.not_eq_false] at hv
    exact refMerge_good a b A X c d w hn hm h h' hv.1 hv.2

set_option maxHeartbeats 4000000 in
set_option maxRecDepth 100000 in
theorem refPrune_bad (l : List Ent) (z : Int) (A : Option Addr) (c : Nat) (w : World) {n : Nat} (hn : l.length = n) (h : ER w A c l) (hv : validL l = false) :
    Calls Try.prog 47 #[.slice A n c, .int .i64 z] w fun e w' => LsEnd w.heap.size (prS l z) e w' ∧ Below w.heap.size w w' := by
  have HS : Hid (prS l z = ([], 90)) := by unfold Hid prS; rw [if_pos hv]
  have HA : Hid (∀ W, Below w.heap.size w W → Calls Try.prog 86 #[.slice A n c] W fun e w' => e = .returned (.bool false) ∧ Below W.heap.size W w') := fun W hW => by
    have := refValidList_any l A c W hn (h.below hW)
    rw [hv] at this
    exact this
  have b0 := Below.refl w.heap.size w
  clear hn h hv
  go_enter Try.func47, Try.ntmps47
  go_wp2_with (go_at_call 86; refine (HA.out _ b0).mono ?_; rintro e w1 ⟨rfl, hb1⟩)
  go_ret2
  unfold LsEnd
  rw [HS.out]
  exact ⟨⟨none, 0, rfl, World.ownsRow_nil _ _ _ _⟩, hb1⟩
set_option maxHeartbeats 4000000 in
set_option maxRecDepth 100000 in
theorem refPrune_out (l : List Ent) (z : Int) (A : Option Addr) (c : Nat) (w : World) {n : Nat} (hn : l.length = n) (h : ER w A c l) (hv : validL l = true) (hz : z < 0 ∨ 1099511627776 < z) :
    Calls Try.prog 47 #[.slice A n c, .int .i64 z] w fun e w' => LsEnd w.heap.size (prS l z) e w' ∧ Below w.heap.size w w' := by
  have HS : Hid (prS l z = ([], 2)) := by unfold Hid prS; rw [if_neg (by rw [hv]; simp), if_pos hz]
  have HA : Hid (∀ W, Below w.heap.size w W → Calls Try.prog 86 #[.slice A n c] W fun e w' => e = .returned (.bool true) ∧ Below W.heap.size W w') := fun W hW => by
    have := refValidList_any l A c W hn (h.below hW)
    rw [hv] at this
    exact this
  have b0 := Below.refl w.heap.size w
  clear hn h hv
  rcases hz with hz | hz
  · go_enter Try.func47, Try.ntmps47
    go_wp2_with (go_at_call 86; refine (HA.out _ b0).mono ?_; rintro e w1 ⟨rfl, hb1⟩)
    go_ret2
    unfold LsEnd
    rw [HS.out]
    exact ⟨⟨none, 0, rfl, World.ownsRow_nil _ _ _ _⟩, hb1⟩
  · have s0 : decide (z < 0) = false := decide_eq_false (by omega)
    go_enter Try.func47, Try.ntmps47
    go_wp2_with (go_at_call 86; refine (HA.out _ b0).mono ?_; rintro e w1 ⟨rfl, hb1⟩)
    go_ret2
    unfold LsEnd
    rw [HS.out]
    exact ⟨⟨none, 0, rfl, World.ownsRow_nil _ _ _ _⟩, hb1⟩
set_option maxHeartbeats 4000000 in
set_option maxRecDepth 100000 in
theorem refPrune_good (l : List Ent) (z : Int) (A : Option Addr) (c : Nat) (w : World) {n : Nat} (hn : l.length = n) (h : ER w A c l) (hv : validL l = true) (h0 : 0 ≤ z) (h1 : z ≤ 1099511627776) :
    Calls Try.prog 47 #[.slice A n c, .int .i64 z] w fun e w' => LsEnd w.heap.size (prS l z) e w' ∧ Below w.heap.size w w' := by
  have hl : n ≤ 64 := by rw [← hn]; exact validL_length hv
  have hni : (n : Int) ≤ 64 := by omega
  have HS : Hid (prS l z = (pruneS l z, 0)) := by unfold Hid prS; rw [if_neg (by rw [hv]; simp), if_neg (by omega)]
  have HA : Hid (∀ W, Below w.heap.size w W → Calls Try.prog 86 #[.slice A n c] W fun e w' => e = .returned (.bool true) ∧ Below W.heap.size W w') := fun W hW => by
    have := refValidList_any l A c W hn (h.below hW)
    rw [hv] at this
    exact this
  have HC : Hid (∀ r u : Int, #[Value.int .i64 r, Value.int .i64 u] = (cellsE [(r, u)]).toArray) := fun _ _ => rfl
  have s0 : decide (z < 0) = false := decide_eq_false (by omega)
  have s1 : decide (1099511627776 < z) = false := decide_eq_false (by omega)
  have b0 := Below.refl w.heap.size w
  have H := Lib.hid h
  have HN := Lib.hid hn
  clear hn h hv h0 h1
  go_enter Try.func47, Try.ntmps47
  go_wp2_with (go_at_call 86; refine (HA.out _ b0).mono ?_; rintro e w1 ⟨rfl, hb1⟩)
  go_loopw [6, 7] (fun vo vi wr => ∃ (i k : Nat) (A' : Option Addr) (c' : Nat), i ≤ n ∧ vi = .int .i64 (i : Int) ∧ vo = .slice A' k c' ∧ Hid ((pruneS (l.take i) z).length = k) ∧ Hid (OE w.heap.size wr A' c' (pruneS (l.take i) z)) ∧ Below w.heap.size w wr) (fun _ vi _ => n - (intOf vi).toNat)
  case atStart => exact ⟨0, 0, none, 0, by omega, rfl, rfl, by unfold Hid; simp [pruneS], by unfold Hid; rw [List.take_zero]; exact World.ownsRow_nil _ _ _ _, hb1⟩
  case round =>
    obtain ⟨i, k, A', c', hi, rfl, rfl, HK, HO, hbel⟩ := hrel
    have hk64 : k ≤ 64 := by
      have h1 := HK.out
      have h2 : (pruneS (l.take i) z).length ≤ (l.take i).length := List.length_filter_le _ _
      rw [List.length_take] at h2
      omega
    by_cases hlt : i < n
    · have hii : (i : Int) < n := by omega
      have hil : i < l.length := by have := HN.out; omega
      obtain ⟨b, off, rfl, hb, c0, c1⟩ := (H.out.below hbel).at_ hil
      obtain ⟨x, hx⟩ : ∃ x, l[i] = x := ⟨_, rfl⟩
      rw [hx] at c0 c1
      obtain ⟨r, q⟩ := x
      simp only at c0 c1
      by_cases hq : z ≤ q
      · have t0 : decide (z ≤ q) = true := decide_eq_true hq
        have HT : Hid (pruneS (l.take (i + 1)) z = pruneS (l.take i) z ++ [(r, q)]) := by unfold Hid; rw [pruneS_step hil, if_pos (by rw [hx]; exact hq), hx]
        clear hq hx hil
        go_wp2_with (at_builtin; rw [HC.out]; refine wpList_append_ents _ rfl (.tmp 30) (.tmp 35) rfl w.heap.size A' k c' (pruneS (l.take i) z) HK.out rfl (HO.out.below (alloc_bel _ _)) (some ⟨wr.heap.size, 0, none⟩) 1 1 [(r, q)] rfl rfl (src_litE [(r, q)] rfl) (by omega) (Nat.le_trans hbel.size (by simp)) ?_; intro A5 c5 w5 ho5 hb5 hg5; have O5 := Lib.hid ho5; have D5 := (hbel.alloc hbel.size (.cells (cellsE [(r, q)]).toArray 79)).trans hb5; clear ho5 hb5 hg5)
        go_roundw
        case rel => exact ⟨i + 1, k + 1, A5, c5, by omega, by go_num, rfl, by unfold Hid; rw [HT.out, List.length_append, HK.out]; rfl, by rw [HT.out]; exact O5.out, D5⟩
        case measure => simp [intOf]; omega
      · have t0 : decide (z ≤ q) = false := decide_eq_false hq
        have HT : Hid (pruneS (l.take (i + 1)) z = pruneS (l.take i) z) := by unfold Hid; rw [pruneS_step hil, if_neg (by rw [hx]; exact hq), List.append_nil]
        clear hq hx hil
        go_wp2_with fail
        go_roundw
        case rel => exact ⟨i + 1, k, A', c', by omega, by go_num, rfl, by unfold Hid; rw [HT.out]; exact HK.out, by rw [HT.out]; exact HO.out, hbel⟩
        case measure => simp [intOf]; omega
    · obtain rfl : i = n := by omega
      have hii : (i : Int) ≤ i := Int.le_refl _
      have HALL : Hid (pruneS (l.take i) z = pruneS l z) := by unfold Hid; rw [List.take_of_length_le (by have := HN.out; omega)]
      rw [HALL.out] at HK HO
      go_wp2_with fail
      go_ret2
      unfold LsEnd
      rw [HS.out]
      exact ⟨⟨A', c', by rw [HK.out]; rfl, HO.out⟩, hbel⟩
theorem refPrune_any (l : List Ent) (z : Int) (A : Option Addr) (c : Nat) (w : World) {n : Nat} (hn : l.length = n) (h : ER w A c l) :
    Calls Try.prog 47 #[.slice A n c, .int .i64 z] w fun e w' => LsEnd w.heap.size (prS l z) e w' ∧ Below w.heap.size w w' := by
  cases hv : validL l with
  | false => exact refPrune_bad l z A c w hn h hv
  | true =>
    by_cases hz : z < 0 ∨ 1099511627776 < z
    · exact refPrune_out l z A c w hn h hv hz
    · exact refPrune_good l z A c w hn h hv (by omega) (by omega)

theorem refCheckList_any (l : List Ent) (A : Option Addr) (c : Nat) (w : World) {n : Nat} (hn : l.length = n) (h : ER w A c l) :
    Calls Try.prog 45 #[.slice A n c] w fun e w' => e = .returned (.int .i64 (ckL (validL l))) ∧ Below w.heap.size w w' := by
  have HA := Lib.hid (refValidList_any l A c w hn h)
  clear hn h
  cases hv : validL l with
  | false =>
    rw [hv] at HA
    clear hv
    go_enter Try.func45, Try.ntmps45
    go_wp2_with (go_at_call 86; refine HA.out.mono ?_; rintro e w1 ⟨rfl, hb1⟩)
    go_ret
    exact ⟨rfl, hb1⟩
  | true =>
    rw [hv] at HA
    clear hv
    go_enter Try.func45, Try.ntmps45
    go_wp2_with (go_at_call 86; refine HA.out.mono ?_; rintro e w1 ⟨rfl, hb1⟩)
    go_ret
    exact ⟨rfl, hb1⟩

set_option maxHeartbeats 4000000 in
set_option maxRecDepth 100000 in
theorem refListRoot_any (l : List Ent) (A : Option Addr) (c : Nat) (w : World) {n : Nat} (hn : l.length = n) (h : ER w A c l) : Calls Try.prog 49 #[.slice A n c] w fun e w' => e = .returned (.tuple #[.agg (cellsB (lrS l).1).toArray, .int .i64 (lrS l).2]) ∧ Below w.heap.size w w' := by
  have HZ := Lib.hid zero16
  have b0 := alloc_bel w (.cells (cellsB zeroK).toArray 23)
  have B0 := Lib.hid (Blk.new w 23 (cellsB zeroK).toArray)
  have HC : Hid (∀ W, Below w.heap.size w W → Calls Try.prog 86 #[.slice A n c] W fun e w' => e = .returned (.bool (validL l)) ∧ Below W.heap.size W w') := fun W hW => refValidList_any l A c W hn (h.below hW)
  cases hv : validL l with
  | false =>
    have HS : Hid (lrS l = (zeroK, 90)) := by unfold Hid lrS; rw [if_pos hv]
    rw [hv] at HC
    change Hid (∀ W, Below w.heap.size w W → Calls Try.prog 86 #[.slice A n c] W fun e w' => e = .returned (.bool false) ∧ Below W.heap.size W w') at HC
    have hdc : (cellsB zeroK).length = 16 := rfl
    have hall := all16 zeroK
    clear hn h hv
    go_enter Try.func49, Try.ntmps49
    go_wp2_with (first
      | (go_at_call 86; rw [HZ.out]; refine (HC.out _ b0).mono ?_; rintro e w1 ⟨rfl, hb1⟩; have b1 := bel_on b0 hb1; have Q1 := B0.out.below' hb1; have hr1 : (rowAt w1 w.heap.size).size = 16 := (by rw [Q1.row]; rfl); have hf1 := Q1.free; have HQ1 := Lib.hid Q1; clear Q1)
      | ((first | rw [HZ.out] | skip); refine wpList_buildTo rfl 23 #[] rfl (some 7) rfl (cellsB zeroK).toArray (by kernel_rfl) ?_))
    refine bodyPost_ret (v := .tuple #[.agg (cellsB zeroK).toArray, .int .i64 90]) ?_ rfl ⟨by rw [HS.out], below_setRow b1 (Nat.le_refl _) _⟩
    rw [results_cell_tmp Try.results49]
    simp [asAddr, Result.andThen, run_loadVar_row _ w.heap.size _ _ _ (0, 0) _ (HQ1.out.setRow (cellsB zeroK).toArray) under_key rfl (cellsB_size _ rfl)]
  | true =>
    have HS : Hid (lrS l = (rootS (leavesE l), 0)) := by unfold Hid lrS; rw [if_neg (by rw [hv]; simp)]
    rw [hv] at HC
    change Hid (∀ W, Below w.heap.size w W → Calls Try.prog 86 #[.slice A n c] W fun e w' => e = .returned (.bool true) ∧ Below W.heap.size W w') at HC
    have hl := validL_length hv
    have HDL : Hid ((rootS (leavesE l)).length = 16) := rootS_length _
    have HE : Hid (∀ W, Below w.heap.size w W → Calls Try.prog 87 #[.slice A n c] W fun e w' => (∃ Y y, e = .returned (.slice Y (n + 2) y) ∧ OK16 W.heap.size w' Y y (leavesE l)) ∧ Below W.heap.size W w') := fun W hW => refLeaves_any l (fun x hx => isE_ok ((validL_iff.1 hv).1 x hx)) A c W hn (h.below hW) (by omega)
    have HD : Hid (∀ Y y W, OK16 W.heap.size W Y y (leavesE l) ∨ KR W Y y (leavesE l) → KR W Y y (leavesE l) → Calls Try.prog 62 #[.slice Y (n + 2) y] W fun e w' => e = .returned (.agg (cellsB (rootS (leavesE l))).toArray) ∧ Below W.heap.size W w') := fun Y y W _ hk => refRootOf_any (n + 2) (leavesE l) Y y W (by rw [leavesE_length, hn]) (by omega) hk
    have HK : Hid (∀ B W Y y, OK16 B W Y y (leavesE l) → KR W Y y (leavesE l)) := fun B W Y y ho => ho.kr (leavesE_16 l) (by rw [leavesE_length]; omega)
    generalize leavesE l = ls at *
    generalize rootS ls = d at HD HDL HS
    have hdc : (cellsB d).length = 16 := by rw [cellsB_length, HDL.out]
    have hall := all16 d
    clear hn h hv hl
    go_enter Try.func49, Try.ntmps49
    go_wp2_with (first
      | (go_at_call 86; rw [HZ.out]; refine (HC.out _ b0).mono ?_; rintro e w1 ⟨rfl, hb1⟩; have b1 := bel_on b0 hb1; have Q1 := Lib.hid (B0.out.below' hb1); clear hb1)
      | (go_at_call 87; refine (HE.out _ b1).mono ?_; rintro e w2 ⟨⟨Y, y, rfl, hk⟩, hb2⟩; have b2 := bel_on b1 hb2; have Q2 := Lib.hid (Q1.out.below' hb2); have K2 := Lib.hid (HK.out _ _ _ _ hk); clear hk hb2)
      | (go_at_call 62; refine (HD.out _ _ _ (.inr K2.out) K2.out).mono ?_; rintro e w3 ⟨rfl, hb3⟩; have b3 := bel_on b2 hb3; have Q3 := Q2.out.below' hb3; have hr1 : (rowAt w3 w.heap.size).size = 16 := (by rw [Q3.row]; rfl); have hf1 := Q3.free; have HQ3 := Lib.hid Q3; clear Q3 hb3))
    refine bodyPost_ret (v := .tuple #[.agg (cellsB d).toArray, .int .i64 0]) ?_ rfl ⟨by rw [HS.out], below_setRow b3 (Nat.le_refl _) _⟩
    rw [results_cell_tmp Try.results49]
    simp [asAddr, Result.andThen, run_loadVar_row _ w.heap.size _ _ _ (0, 0) _ (HQ3.out.setRow (cellsB d).toArray) under_key rfl (cellsB_size _ HDL.out)]

set_option maxHeartbeats 4000000 in
set_option maxRecDepth 100000 in
theorem refLeaf2_any (r u : Int) (w : World) : Calls Try.prog 51 #[.agg #[.int .i64 r, .int .i64 u]] w fun e w' => e = .returned (.tuple #[.agg (cellsB (lfS (r, u)).1).toArray, .int .i64 (lfS (r, u)).2]) ∧ Below w.heap.size w w' := by
  have HZ := Lib.hid zero16
  have b0 := alloc2_bel w (.cells #[.int .i64 r, .int .i64 u] 79) (.cells (cellsB zeroK).toArray 23)
  have E0 := Lib.hid (blk_b0 w #[.int .i64 r, .int .i64 u] 79 (.cells (cellsB zeroK).toArray 23))
  have B0 := Lib.hid (blk_b1 w (.cells #[.int .i64 r, .int .i64 u] 79) (cellsB zeroK).toArray 23)
  have HI : Hid (∀ W, Calls Try.prog 92 #[.agg #[.int .i64 r, .int .i64 u]] W fun e w' => e = .returned (.bool (isE (r, u))) ∧ Below W.heap.size W w') := fun W => refIsEntry_any r u W
  have i0 : ((w.alloc (.cells #[.int .i64 r, .int .i64 u] 79)).alloc (.cells (cellsB zeroK).toArray 23)).cell? ⟨w.heap.size, 0, none⟩ = some (.int .i64 r) := E0.out.cell 0
  have i1 : ((w.alloc (.cells #[.int .i64 r, .int .i64 u] 79)).alloc (.cells (cellsB zeroK).toArray 23)).cell? ⟨w.heap.size, 1, none⟩ = some (.int .i64 u) := E0.out.cell 1
  cases hx : isE (r, u) with
  | false =>
    have HS : Hid (lfS (r, u) = (zeroK, 2)) := by unfold Hid lfS; rw [hx]; rfl
    rw [hx] at HI
    have hdc : (cellsB zeroK).length = 16 := rfl
    have hall := all16 zeroK
    clear hx
    go_enter Try.func51, Try.ntmps51
    go_wp2_with (first
      | (go_at_call 92; rw [HZ.out]; refine (HI.out _).mono ?_; rintro e w1 ⟨rfl, hb1⟩; have b1 := bel_on b0 hb1; have Q1 := B0.out.below' hb1; have hr1 : (rowAt w1 (w.heap.size + 1)).size = 16 := (by rw [Q1.row]; rfl); have hf1 := Q1.free; have HQ1 := Lib.hid Q1; clear Q1 i0 i1)
      | ((first | rw [HZ.out] | skip); refine wpList_buildTo rfl 23 #[] rfl (some 7) rfl (cellsB zeroK).toArray (by kernel_rfl) ?_))
    refine bodyPost_ret (v := .tuple #[.agg (cellsB zeroK).toArray, .int .i64 2]) ?_ rfl ⟨by rw [HS.out], below_setRow b1 (by omega) _⟩
    rw [results_cell_tmp Try.results51]
    simp [asAddr, Result.andThen, run_loadVar_row _ (w.heap.size + 1) _ _ _ (0, 0) _ (HQ1.out.setRow (cellsB zeroK).toArray) under_key rfl (cellsB_size _ rfl)]
  | true =>
    have HS : Hid (lfS (r, u) = (leafE (r, u), 0)) := by unfold Hid lfS; rw [if_pos hx]
    rw [hx] at HI
    have HL : Hid (∀ W, Calls Try.prog 93 #[.agg #[.int .i64 r, .int .i64 u]] W fun e w' => e = .returned (.agg (cellsB (leafE (r, u))).toArray) ∧ Below W.heap.size W w') := fun W => refLeaf_any r u W hx
    have HDL : Hid ((leafE (r, u)).length = 16) := leafE_length _
    generalize leafE (r, u) = d at HL HDL HS
    have hdc : (cellsB d).length = 16 := by rw [cellsB_length, HDL.out]
    have hall := all16 d
    clear hx
    go_enter Try.func51, Try.ntmps51
    go_wp2_with (first
      | (go_at_call 92; rw [HZ.out]; refine (HI.out _).mono ?_; rintro e w1 ⟨rfl, hb1⟩; have b1 := bel_on b0 hb1; have Q1 := Lib.hid (B0.out.below' hb1); have j0 : w1.cell? ⟨w.heap.size, 0, none⟩ = some (.int .i64 r) := (E0.out.below' hb1).cell 0; have j1 : w1.cell? ⟨w.heap.size, 1, none⟩ = some (.int .i64 u) := (E0.out.below' hb1).cell 1; clear i0 i1 hb1)
      | (go_at_call 93; refine (HL.out _).mono ?_; rintro e w2 ⟨rfl, hb2⟩; have b2 := bel_on b1 hb2; have Q2 := Q1.out.below' hb2; have hr1 : (rowAt w2 (w.heap.size + 1)).size = 16 := (by rw [Q2.row]; rfl); have hf1 := Q2.free; have HQ2 := Lib.hid Q2; clear Q2 hb2 j0 j1))
    refine bodyPost_ret (v := .tuple #[.agg (cellsB d).toArray, .int .i64 0]) ?_ rfl ⟨by rw [HS.out], below_setRow b2 (by omega) _⟩
    rw [results_cell_tmp Try.results51]
    simp [asAddr, Result.andThen, run_loadVar_row _ (w.heap.size + 1) _ _ _ (0, 0) _ (HQ2.out.setRow (cellsB d).toArray) under_key rfl (cellsB_size _ HDL.out)]
end Go.Proofs.Ytinpiodfpnbllaa

/- The law AuditLists: the walk. -/
namespace Go.Proofs.Ytinpiodfpnbllaa
open Go.RowKit
set_option linter.unusedVariables false
set_option linter.unusedSimpArgs false
attribute [local go_sem] equalIn_keys

theorem wpList_append_entsB (w : World) {ops : Array Oper} {rest : List Oper} {o : Oper} {a : Act} {Q : Exit → Act → World → Prop} (hgd : o.guard = none) (s x : Operand)
    (ho : o.op = .call { callee := .builtin .append, args := #[s, x], argTypes := #[77, 77] })
    (B : Nat) (A : Option Addr) (n c : Nat) (l : List Ent) (hn : l.length = n) (hs : a.eval s = .slice A n c) (hown : OE B w A c l)
    (X : Option Addr) (m d : Nat) (news : List Ent) (hm : news.length = m) (hx : a.eval x = .slice X m d) (hsrc : Src w 2 X m (cellsE news))
    (hlen : (n + m) * 16 ≤ 140737488355328) (hB : B ≤ w.heap.size)
    (h : ∀ A' c' w', OE B w' A' c' (l ++ news) → Below B w w' → wpList Try.prog ops Q rest (a.put o.dst (.slice A' (n + m) c')) w') : wpList Try.prog ops Q (o :: rest) a w := by
  obtain ⟨i0, hi, hz0, hz1, hz2⟩ := info_parts ent_info3
  subst hn hm
  refine wpList_append_src w hgd s x 77 ho B 79 i0 (.agg (cellsX (0, 0)).toArray) 2 16 Try.underlying77 hi hz0 hz1 hz2 rfl (by omega) A l.length c (cellsE l) hs hown X news.length d (cellsE news) hx hsrc (cells_oneE _)
    (by simp only [maxLen]; omega) hlen hB ?_
  intro A' c' w' h1 h2 h3
  refine h A' c' w' ?_ (grown_below (Below.refl _ _) hown h2 hB (Nat.le_refl _))
  unfold OE
  rw [cellsE_append, List.length_append]
  exact h1
theorem EB.bump {B : Nat} {w : World} {g c : Nat} {xs : List Ent} (h : EB B w g c xs) {i : Nat} (hi : i < xs.length) (v : Int) : EB B (w.setCell ⟨g, i * 2 + 1, none⟩ (.int .i64 v)) g c (xs.set i (xs[i].1, v)) := by
  obtain ⟨hb, cur, hg, hn, hm, hs, ht⟩ := h
  refine ⟨hb, _, hg.set_ (i * 2 + 1) (.int .i64 v), by simpa using hn, hm, by simpa using hs, ?_⟩
  rw [List.length_set, cellsE_set]
  have e : (cellsE xs).set (i * 2) (.int .i64 xs[i].1) = cellsE xs := by
    have hg := (cellsE_get xs i hi).1
    apply List.ext_getElem?
    intro j
    rw [List.getElem?_set]
    by_cases hj : i * 2 = j
    · subst hj; rw [if_pos rfl, hg]; simp [cellsE_length]; omega
    · rw [if_neg hj]
  simp only [e]
  rw [← ht]
  simp only [Array.toList_setIfInBounds, List.take_set]
theorem mgS_le (a b : List Ent) : (mgS a b).1.length ≤ 64 := by
  unfold mgS
  split
  · simp
  · exact mergeS_le a b
theorem prS_le (l : List Ent) (z : Int) : (prS l z).1.length ≤ 64 := by
  unfold prS
  split
  · simp
  · split
    · simp
    · rename_i hv _
      have := validL_length (l := l) (by simpa using hv)
      exact Nat.le_trans (List.length_filter_le _ _) this
theorem lrS_length (l : List Ent) : (lrS l).1.length = 16 := by
  unfold lrS
  split
  · rfl
  · exact rootS_length _
theorem lfS_length (x : Ent) : (lfS x).1.length = 16 := by
  unfold lfS
  split
  · exact leafE_length x
  · rfl
theorem keybox (w : World) (c0 z0 : Array Value) (t0 : TypeId) {W : World} (hW : W = (w.alloc (.cells z0 t0)).setRow w.heap.size c0) : Below w.heap.size w W ∧ Blk W w.heap.size t0 c0 := by
  subst hW
  exact ⟨below_setRow (alloc_bel w _) (Nat.le_refl _) _, (Blk.new w t0 z0).setRow c0⟩
theorem Blk.other {w : World} {g k : Nat} {t : TypeId} {cs : Array Value} (h : Blk w g t cs) (hne : g ≠ k) (c : Array Value) : Blk (w.setRow k c) g t cs := (setRow_other w k g c hne).trans h

set_option maxHeartbeats 16000000 in
set_option maxRecDepth 100000 in
theorem auditLists_in (A : Option Addr) (c : Nat) (a : List Ent) (X : Option Addr) (d : Nat) (b : List Ent) (z r u : Int) (w : World) (ha : ER w A c a) (hc : c * 16 ≤ 140737488351232) (hb : ER w X d b) (hd : d * 16 ≤ 140737488351232) :
    Calls Try.prog 7 #[.slice A a.length c, .slice X b.length d, .int .i64 z, .agg #[.int .i64 r, .int .i64 u]] w fun e w' => e = .returned (.bool true) ∧ Below w.heap.size w w' := by
  obtain ⟨n, hn⟩ : ∃ n, a.length = n := ⟨_, rfl⟩
  obtain ⟨m, hm⟩ : ∃ n, b.length = n := ⟨_, rfl⟩
  rw [hn, hm]
  have hnc : n ≤ c := by have := Rd.le ha; omega
  have hmd : m ≤ d := by have := Rd.le hb; omega
  have HZ := Lib.hid zero16
  obtain ⟨W0, hW0⟩ : ∃ W, W = w.alloc (.cells #[.int .i64 r, .int .i64 u] 79) := ⟨_, rfl⟩
  have b0 : Below w.heap.size w W0 := by rw [hW0]; exact alloc_bel w _
  have Q0 : Blk W0 w.heap.size 79 #[.int .i64 r, .int .i64 u] := by rw [hW0]; exact Blk.new w _ _
  have hz0 : W0.heap.size = w.heap.size + 1 := by rw [hW0]; simp
  have HL : Hid (∀ (B : Nat) (W : World), B ≤ W.heap.size → OE B (W.alloc (.cells #[] 79)) (some ⟨W.heap.size, 0, none⟩) 0 []) := fun B W hB => OE.lit0 B W hB
  have HSA : Hid (∀ W, Below w.heap.size w W → Src (W.alloc (.cells #[] 79)) 2 A n (cellsE a)) := fun W hW => ((ha.below hW).below (alloc_bel W _)).src hn
  have HSB : Hid (∀ W, Below w.heap.size w W → Src (W.alloc (.cells #[] 79)) 2 X m (cellsE b)) := fun W hW => ((hb.below hW).below (alloc_bel W _)).src hm
  have HER : Hid (∀ B W Y y, OE B W Y y a → ER W Y y a) := fun B W Y y ho => ho.er (by rw [hn]; have := ha.len; omega)
  have HERb : Hid (∀ B W Y y, OE B W Y y b → ER W Y y b) := fun B W Y y ho => ho.er (by rw [hm]; have := hb.len; omega)
  have H1 : Hid (∀ W Y y V v, ER W Y y a → ER W V v b → Calls Try.prog 41 #[.slice Y n y, .slice V m v] W fun e w' => LsEnd W.heap.size (mgS a b) e w' ∧ Below W.heap.size W w') := fun W Y y V v h1 h2 => Merge_any a b Y V y v W hn hm h1 h2
  have H2 : Hid (∀ W, Below w.heap.size w W → Calls Try.prog 42 #[.slice A n c, .slice X m d] W fun e w' => LsEnd W.heap.size (mgS a b) e w' ∧ Below W.heap.size W w') := fun W hW => refMerge_any a b A X c d W hn hm (ha.below hW) (hb.below hW)
  have H3 : Hid (∀ W Y y, ER W Y y a → Calls Try.prog 44 #[.slice Y n y] W fun e w' => e = .returned (.int .i64 (ckL (validL a))) ∧ Below W.heap.size W w') := fun W Y y h1 => checkList_any a Y y W hn h1
  have H4 : Hid (∀ W, Below w.heap.size w W → Calls Try.prog 45 #[.slice A n c] W fun e w' => e = .returned (.int .i64 (ckL (validL a))) ∧ Below W.heap.size W w') := fun W hW => refCheckList_any a A c W hn (ha.below hW)
  have H5 : Hid (∀ W Y y, ER W Y y a → Calls Try.prog 46 #[.slice Y n y, .int .i64 z] W fun e w' => LsEnd W.heap.size (prS a z) e w' ∧ Below W.heap.size W w') := fun W Y y h1 => Prune_any a z Y y W hn h1
  have H6 : Hid (∀ W, Below w.heap.size w W → Calls Try.prog 47 #[.slice A n c, .int .i64 z] W fun e w' => LsEnd W.heap.size (prS a z) e w' ∧ Below W.heap.size W w') := fun W hW => refPrune_any a z A c W hn (ha.below hW)
  have H7 : Hid (∀ W Y y, ER W Y y a → Calls Try.prog 48 #[.slice Y n y] W fun e w' => e = .returned (.tuple #[.agg (cellsB (lrS a).1).toArray, .int .i64 (lrS a).2]) ∧ Below W.heap.size W w') := fun W Y y h1 => ListRoot_any a Y y W hn h1
  have H8 : Hid (∀ W, Below w.heap.size w W → Calls Try.prog 49 #[.slice A n c] W fun e w' => e = .returned (.tuple #[.agg (cellsB (lrS a).1).toArray, .int .i64 (lrS a).2]) ∧ Below W.heap.size W w') := fun W hW => refListRoot_any a A c W hn (ha.below hW)
  have H9 : Hid (∀ W, Calls Try.prog 50 #[.agg #[.int .i64 r, .int .i64 u]] W fun e w' => e = .returned (.tuple #[.agg (cellsB (lfS (r, u)).1).toArray, .int .i64 (lfS (r, u)).2]) ∧ Below W.heap.size W w') := fun W => Leaf_any r u W
  have H10 : Hid (∀ W, Calls Try.prog 51 #[.agg #[.int .i64 r, .int .i64 u]] W fun e w' => e = .returned (.tuple #[.agg (cellsB (lfS (r, u)).1).toArray, .int .i64 (lfS (r, u)).2]) ∧ Below W.heap.size W w') := fun W => refLeaf2_any r u W
  have HSO : Hid (∀ W Y y, ER W Y y a → Below w.heap.size w W → Calls Try.prog 43 #[.slice Y n y, .slice A n c] W fun e w' => e = .returned (.bool true) ∧ Below W.heap.size W w') := fun W Y y h1 hW => sameEnts_any a Y y A c W hn h1 (ha.below hW)
  have HSP : Hid (∀ W Y y, ER W Y y b → Below w.heap.size w W → Calls Try.prog 43 #[.slice Y m y, .slice X m d] W fun e w' => e = .returned (.bool true) ∧ Below W.heap.size W w') := fun W Y y h1 hW => sameEnts_any b Y y X d W hm h1 (hb.below hW)
  have hl1 := mgS_le a b
  have hl2 := prS_le a z
  have hk3 := lrS_length a
  have hk4 := lfS_length (r, u)
  generalize mgS a b = v1 at H1 H2 hl1
  generalize prS a z = v2 at H5 H6 hl2
  generalize lrS a = v3 at H7 H8 hk3
  generalize lfS (r, u) = v4 at H9 H10 hk4
  generalize ckL (validL a) = e5 at H3 H4
  obtain ⟨l1, e1⟩ := v1
  obtain ⟨l2, e2⟩ := v2
  obtain ⟨k3, e3⟩ := v3
  obtain ⟨k4, e4⟩ := v4
  unfold LsEnd at H1 H2 H5 H6
  dsimp only at H1 H2 H5 H6 H7 H8 H9 H10 hl1 hl2 hk3 hk4
  obtain ⟨N1, hN1⟩ : ∃ N, l1.length = N := ⟨_, rfl⟩
  obtain ⟨N2, hN2⟩ : ∃ N, l2.length = N := ⟨_, rfl⟩
  rw [hN1] at H1 H2 hl1
  rw [hN2] at H5 H6 hl2
  have HSL1 : Hid (∀ B B' W Y y Y' y', OE B W Y y l1 → OE B' W Y' y' l1 → Calls Try.prog 43 #[.slice Y N1 y, .slice Y' N1 y'] W fun e w' => e = .returned (.bool true) ∧ Below W.heap.size W w') := fun B B' W Y y Y' y' h1 h2 => sameEnts_any l1 Y y Y' y' W hN1 (h1.er (by omega)) (h2.er (by omega))
  have HSL2 : Hid (∀ B B' W Y y Y' y', OE B W Y y l2 → OE B' W Y' y' l2 → Calls Try.prog 43 #[.slice Y N2 y, .slice Y' N2 y'] W fun e w' => e = .returned (.bool true) ∧ Below W.heap.size W w') := fun B B' W Y y Y' y' h1 h2 => sameEnts_any l2 Y y Y' y' W hN2 (h1.er (by omega)) (h2.er (by omega))
  have hN1i : (N1 : Int) ≤ 64 := by omega
  have hN2i : (N2 : Int) ≤ 64 := by omega
  have HN := Lib.hid hn
  have HM := Lib.hid hm
  have HN1 := Lib.hid hN1
  have HN2 := Lib.hid hN2
  have HK3 := Lib.hid hk3
  have HK4 := Lib.hid hk4
  have HW0 := Lib.hid hW0
  have HZ0 := Lib.hid hz0
  have HQ0 : Hid (∀ W, Below W0.heap.size W0 W → Blk W w.heap.size 79 #[.int .i64 r, .int .i64 u]) := fun W hW => Q0.below' hW
  have hna : (0 + n) * 16 ≤ 140737488355328 := by omega
  have hmb : (0 + m) * 16 ≤ 140737488355328 := by omega
  have HNA := Lib.hid hna
  have HMB := Lib.hid hmb
  have hall3 := all16 k3
  have hall4 := all16 k4
  clear ha hb hc hd hn hm hnc hmd hN1 hN2 hk3 hk4 hW0 hz0 hna hmb Q0
  go_enter Try.func7, Try.ntmps7
  go_wp2_with (first
    | (at_builtin; rw [← HW0.out, ← HZ0.out]; refine wpList_append_entsB _ rfl (.tmp 19) (.tmp 20) rfl W0.heap.size (some ⟨W0.heap.size, 0, none⟩) 0 0 [] rfl rfl (HL.out _ _ (Nat.le_refl _)) A n c a HN.out rfl (HSA.out _ b0) HNA.out (by simp) ?_; intro Y1 y1 w1 ho1 hb1; have G1 := Lib.hid ((alloc_bel W0 (.cells #[] 79)).trans hb1); have F1 := Lib.hid (bel_on b0 G1.out); have O1 := Lib.hid ho1; clear ho1 hb1; simp only [Nat.zero_add])
    | (at_builtin; refine wpList_append_entsB _ rfl (.tmp 22) (.tmp 23) rfl w1.heap.size (some ⟨w1.heap.size, 0, none⟩) 0 0 [] rfl rfl (HL.out _ _ (Nat.le_refl _)) X m d b HM.out rfl (HSB.out _ F1.out) HMB.out (by simp) ?_; intro Y2 y2 w2 ho2 hb2; have J2 := Lib.hid ((alloc_bel w1 (.cells #[] 79)).trans hb2); have F2 := Lib.hid (bel_on F1.out J2.out); have G2 := Lib.hid (bel_on G1.out J2.out); have P2 := Lib.hid (O1.out.below J2.out); have R2 := Lib.hid ho2; have D2 := Below.refl w2.heap.size w2; clear ho2 hb2; simp only [Nat.zero_add])
    | (go_at_call 41; (with_reducible refine (H1.out _ _ _ _ _ (HER.out _ _ _ _ P2.out) (HERb.out _ _ _ _ R2.out)).mono ?_); rintro e w3 ⟨⟨X3, x3, rfl, ho3⟩, hb3⟩; have D3 := hb3; have L3 := Lib.hid ho3; clear ho3 hb3)
    | (go_at_call 42; (with_reducible refine (H2.out _ (bel_on F2.out D3)).mono ?_); rintro e w4 ⟨⟨X4, x4, rfl, ho4⟩, hb4⟩; have D4 := bel_on D3 hb4; have L4 := Lib.hid (L3.out.below hb4); have K4 := Lib.hid ho4; clear ho4 hb4)
    | (go_at_call 43; (with_reducible refine (HSL1.out _ _ _ _ _ _ _ L4.out K4.out).mono ?_); rintro e w5 ⟨rfl, hb5⟩; have D5 := bel_on D4 hb5; have L5 := Lib.hid (L4.out.below hb5); clear hb5)
    | (go_at_call 44; (with_reducible refine (H3.out _ _ _ (HER.out _ _ _ _ (P2.out.below D5))).mono ?_); rintro e w6 ⟨rfl, hb6⟩; have D6 := bel_on D5 hb6; have L6 := Lib.hid (L5.out.below hb6); clear hb6)
    | (go_at_call 45; (with_reducible refine (H4.out _ (bel_on F2.out D6)).mono ?_); rintro e w7 ⟨rfl, hb7⟩; have D7 := bel_on D6 hb7; have L7 := Lib.hid (L6.out.below hb7); clear hb7))
  go_loopw [15] (fun vi wr => ∃ (i : Nat) (ys : List Ent), i ≤ N1 ∧ vi = .int .i64 (i : Int) ∧ Hid (ys.length = N1) ∧ Hid (OE w2.heap.size wr X3 x3 ys) ∧ Below w2.heap.size w2 wr) (fun vi _ => N1 - (intOf vi).toNat)
  case atStart => exact ⟨0, _, by omega, rfl, HN1.out, L7.out, D7⟩
  case round =>
    obtain ⟨i, ys, hi, rfl, HY, HO, hbel⟩ := hrel
    by_cases hlt : i < N1
    · have hii : (i : Int) < N1 := by omega
      have hil : i < ys.length := by have := HY.out; omega
      have hne : ys ≠ [] := fun he => by rw [he] at hil; simp at hil
      obtain ⟨g, rfl, hE⟩ := EB.of_own HO.out hne
      have HE := Lib.hid hE
      have HIL := Lib.hid hil
      have hxc : x3 ≤ 9223372036854775807 := hE.cap
      have hnx : N1 ≤ x3 := by have := hE.len; have := HY.out; omega
      have hxi : (x3 : Int) ≤ 9223372036854775807 := by omega
      have hnxi : (N1 : Int) ≤ (x3 : Int) := by omega
      obtain ⟨q, hq⟩ : ∃ q, ys[i]'hil = q := ⟨_, rfl⟩
      have hcc := hE.cell hil
      rw [hq] at hcc
      obtain ⟨q0, q1⟩ := q
      simp only at hcc
      obtain ⟨c0, c1⟩ := hcc
      have f1 := hE.frozen (i * 2 + 1)
      have HB := Lib.hid hE.1
      clear hE hil hne hxc hnx hq
      go_wp2_with fail
      go_roundw
      case rel => exact ⟨i + 1, _, by omega, by go_num, by unfold Hid; rw [List.length_set]; exact HY.out, (HE.out.bump HIL.out _).own, hbel.setCell (p := ⟨g, i * 2 + 1, none⟩) HB.out _⟩
      case measure => simp [intOf]; omega
    · obtain rfl : i = N1 := by omega
      have hii : (i : Int) ≤ i := Int.le_refl _
      obtain ⟨w8, rfl⟩ : ∃ W, W = wr := ⟨_, rfl⟩
      have D8 := hbel
      clear hbel HO HY
      have F8 := Lib.hid (bel_on F2.out D8)
      have P8 := Lib.hid (P2.out.below D8)
      have R8 := Lib.hid (R2.out.below D8)
      have G8 := Lib.hid (bel_on G2.out D8)
      go_wp2_with (first
        | (go_at_call 46; (with_reducible refine (H5.out _ _ _ (HER.out _ _ _ _ P8.out)).mono ?_); rintro e w9 ⟨⟨X9, x9, rfl, ho9⟩, hb9⟩; have D9 := hb9; have L9 := Lib.hid ho9; clear ho9 hb9)
        | (go_at_call 47; (with_reducible refine (H6.out _ (bel_on F8.out D9)).mono ?_); rintro e w10 ⟨⟨X10, x10, rfl, ho10⟩, hb10⟩; have D10 := bel_on D9 hb10; have L10 := Lib.hid (L9.out.below hb10); have K10 := Lib.hid ho10; clear ho10 hb10)
        | (go_at_call 43; (with_reducible refine (HSL2.out _ _ _ _ _ _ _ L10.out K10.out).mono ?_); rintro e w11 ⟨rfl, hb11⟩; have D11 := bel_on D10 hb11; have L11 := Lib.hid (L10.out.below hb11); clear hb11))
      go_loopw [16] (fun vi wr => ∃ (i : Nat) (ys : List Ent), i ≤ N2 ∧ vi = .int .i64 (i : Int) ∧ Hid (ys.length = N2) ∧ Hid (OE w8.heap.size wr X9 x9 ys) ∧ Below w8.heap.size w8 wr) (fun vi _ => N2 - (intOf vi).toNat)
      case atStart => exact ⟨0, _, by omega, rfl, HN2.out, L11.out, D11⟩
      case round =>
        obtain ⟨i, ys, hi, rfl, HY, HO, hbel⟩ := hrel
        by_cases hlt : i < N2
        · have hii : (i : Int) < N2 := by omega
          have hil : i < ys.length := by have := HY.out; omega
          have hne : ys ≠ [] := fun he => by rw [he] at hil; simp at hil
          obtain ⟨g, rfl, hE⟩ := EB.of_own HO.out hne
          have HE := Lib.hid hE
          have HIL := Lib.hid hil
          have hxc : x9 ≤ 9223372036854775807 := hE.cap
          have hnx : N2 ≤ x9 := by have := hE.len; have := HY.out; omega
          have hxi : (x9 : Int) ≤ 9223372036854775807 := by omega
          have hnxi : (N2 : Int) ≤ (x9 : Int) := by omega
          obtain ⟨q, hq⟩ : ∃ q, ys[i]'hil = q := ⟨_, rfl⟩
          have hcc := hE.cell hil
          rw [hq] at hcc
          obtain ⟨q0, q1⟩ := q
          simp only at hcc
          obtain ⟨c0, c1⟩ := hcc
          have f1 := hE.frozen (i * 2 + 1)
          have HB := Lib.hid hE.1
          clear hE hil hne hxc hnx hq
          go_wp2_with fail
          go_roundw
          case rel => exact ⟨i + 1, _, by omega, by go_num, by unfold Hid; rw [List.length_set]; exact HY.out, (HE.out.bump HIL.out _).own, hbel.setCell (p := ⟨g, i * 2 + 1, none⟩) HB.out _⟩
          case measure => simp [intOf]; omega
        · obtain rfl : i = N2 := by omega
          have hii : (i : Int) ≤ i := Int.le_refl _
          obtain ⟨w12, rfl⟩ : ∃ W, W = wr := ⟨_, rfl⟩
          have D12 := hbel
          clear hbel HO HY
          have F12 := Lib.hid (bel_on F8.out D12)
          have P12 := Lib.hid (P8.out.below D12)
          have R12 := Lib.hid (R8.out.below D12)
          have G12 := Lib.hid (bel_on G8.out D12)
          go_wp2_with (first
            | (go_at_call 48; (with_reducible refine (H7.out _ _ _ (HER.out _ _ _ _ P12.out)).mono ?_); rintro e w13 ⟨rfl, hb13⟩; have D13 := Lib.hid hb13; clear hb13)
            | ((first | rw [HZ.out] | skip); refine wpList_store_row rfl 23 (.tmp 17) (.tmp 105) rfl w13.heap.size (cellsB k3).toArray rfl rfl 23 (cellsB zeroK).toArray (Blk.new w13 _ _) (cellsB_size _ HK3.out) (cellsB_sizes _ _ zeroK_length HK3.out) (cellsB_all _) ?_; obtain ⟨W13, hW13⟩ : ∃ W, W = (w13.alloc (.cells (cellsB zeroK).toArray 23)).setRow w13.heap.size (cellsB k3).toArray := ⟨_, rfl⟩; rw [← hW13]; obtain ⟨g13, n13⟩ := keybox _ _ _ _ hW13; have E13 := Lib.hid (bel_on D13.out g13); have N13 := Lib.hid n13; have B13 := Lib.hid g13; clear hW13 g13 n13)
            | (go_at_call 49; (with_reducible refine (H8.out _ (bel_on F12.out E13.out)).mono ?_); rintro e w14 ⟨rfl, hb14⟩; have D14 := Lib.hid (bel_on E13.out hb14); have N14 := Lib.hid (N13.out.below' hb14); have B14 := Lib.hid (bel_on B13.out hb14); clear hb14)
            | ((first | rw [HZ.out] | skip); refine wpList_store_row rfl 23 (.tmp 18) (.tmp 110) rfl w14.heap.size (cellsB k3).toArray rfl rfl 23 (cellsB zeroK).toArray (Blk.new w14 _ _) (cellsB_size _ HK3.out) (cellsB_sizes _ _ zeroK_length HK3.out) (cellsB_all _) ?_; obtain ⟨W14, hW14⟩ : ∃ W, W = (w14.alloc (.cells (cellsB zeroK).toArray 23)).setRow w14.heap.size (cellsB k3).toArray := ⟨_, rfl⟩; rw [← hW14]; obtain ⟨g14, n14⟩ := keybox _ _ _ _ hW14; have E14 := Lib.hid (bel_on D14.out g14); have M14 := Lib.hid (N14.out.below' g14); have V14 := Lib.hid n14; have C14 := Lib.hid (bel_on B14.out g14); have hne := Lib.hid (Nat.ne_of_lt N14.out.lt); clear hW14 g14 n14)
            | (go_at_call 50; (with_reducible refine (H9.out _).mono ?_); rintro e w15 ⟨rfl, hb15⟩; have D15 := Lib.hid (bel_on C14.out hb15); have M15 := Lib.hid (M14.out.below' hb15); have V15 := Lib.hid (V14.out.below' hb15); clear hb15)
            | (refine wpList_store_row rfl 23 (.tmp 17) (.tmp 123) rfl w13.heap.size (cellsB k4).toArray rfl rfl 23 (cellsB k3).toArray M15.out (cellsB_size _ HK4.out) (cellsB_sizes _ _ HK3.out HK4.out) (cellsB_all _) ?_; obtain ⟨W15, hW15⟩ : ∃ W, W = w15.setRow w13.heap.size (cellsB k4).toArray := ⟨_, rfl⟩; rw [← hW15]; have E15 : Hid (Below w13.heap.size w13 W15) := (by unfold Hid; rw [hW15]; exact below_setRow D15.out (Nat.le_refl _) _); have M16 : Hid (Blk W15 w13.heap.size 23 (cellsB k4).toArray) := (by unfold Hid; rw [hW15]; exact M15.out.setRow _); have V16 : Hid (Blk W15 w14.heap.size 23 (cellsB k3).toArray) := (by unfold Hid; rw [hW15]; exact V15.out.other (fun h => hne.out h.symm) _); clear hW15)
            | (go_at_call 51; (with_reducible refine (H10.out _).mono ?_); rintro e w16 ⟨rfl, hb16⟩; have D16 := Lib.hid (bel_on E15.out hb16); have M17 := Lib.hid (M16.out.below' hb16); have V17 := Lib.hid (V16.out.below' hb16); clear hb16)
            | (refine wpList_store_row rfl 23 (.tmp 18) (.tmp 128) rfl w14.heap.size (cellsB k4).toArray rfl rfl 23 (cellsB k3).toArray V17.out (cellsB_size _ HK4.out) (cellsB_sizes _ _ HK3.out HK4.out) (cellsB_all _) ?_; obtain ⟨W16, hW16⟩ : ∃ W, W = w16.setRow w14.heap.size (cellsB k4).toArray := ⟨_, rfl⟩; rw [← hW16]; have E16 : Hid (Below w13.heap.size w13 W16) := (by unfold Hid; rw [hW16]; exact below_setRow D16.out (Nat.le_of_lt N14.out.lt) _); have M18 : Hid (Blk W16 w13.heap.size 23 (cellsB k4).toArray) := (by unfold Hid; rw [hW16]; exact M17.out.other hne.out _); have V18 : Hid (Blk W16 w14.heap.size 23 (cellsB k4).toArray) := (by unfold Hid; rw [hW16]; exact V17.out.setRow _); have F16 := Lib.hid (bel_on F12.out (bel_on D13.out E16.out)); have P16 := Lib.hid (P12.out.below (bel_on D13.out E16.out)); have R16 := Lib.hid (R12.out.below (bel_on D13.out E16.out)); clear hW16)
            | (refine wpList_load_row rfl 23 (.tmp 17) rfl w13.heap.size rfl 23 (cellsB k4).toArray (0, 0) _ M18.out under_key rfl (cellsB_size _ HK4.out) ?_)
            | (refine wpList_load_row rfl 23 (.tmp 18) rfl w14.heap.size rfl 23 (cellsB k4).toArray (0, 0) _ V18.out under_key rfl (cellsB_size _ HK4.out) ?_)
            | (refine wpList_load_row rfl 23 (.tmp 17) rfl w13.heap.size rfl 23 (cellsB k3).toArray (0, 0) _ M14.out under_key rfl (cellsB_size _ HK3.out) ?_)
            | (refine wpList_load_row rfl 23 (.tmp 18) rfl w14.heap.size rfl 23 (cellsB k3).toArray (0, 0) _ V14.out under_key rfl (cellsB_size _ HK3.out) ?_)
            | (refine wpList_load_row rfl 79 (.tmp 7) rfl w.heap.size rfl 79 #[.int .i64 r, .int .i64 u] (0, 0) _ (HQ0.out _ (bel_on G12.out (bel_on D13.out E15.out))) Try.underlying79 rfl (by kernel_rfl) ?_)
            | (refine wpList_load_row rfl 79 (.tmp 7) rfl w.heap.size rfl 79 #[.int .i64 r, .int .i64 u] (0, 0) _ (HQ0.out _ (bel_on G12.out E14.out)) Try.underlying79 rfl (by kernel_rfl) ?_)
            | (go_at_call 43; (with_reducible refine (HSO.out _ _ _ (HER.out _ _ _ _ P16.out) F16.out).mono ?_); rintro e w17 ⟨rfl, hb17⟩; have F17 := Lib.hid (bel_on F16.out hb17); have R17 := Lib.hid (R16.out.below hb17); clear hb17)
            | (go_at_call 43; (with_reducible refine (HSP.out _ _ _ (HERb.out _ _ _ _ R17.out) F17.out).mono ?_); rintro e w18 ⟨rfl, hb18⟩; have F18 := bel_on F17.out hb18; clear hb18))
          go_ret
          exact ⟨rfl, F18⟩

theorem auditLists_walk (A : Option Addr) (c : Nat) (a : List Ent) (X : Option Addr) (d : Nat) (b : List Ent) (z r u : Int) (w : World) (ha : ER w A c a) (hc : c * 16 ≤ 140737488351232) (hb : ER w X d b) (hd : d * 16 ≤ 140737488351232) (_ : -9223372036854775808 ≤ z) (_ : z ≤ 9223372036854775807) :
    Calls Try.prog 7 #[.slice A a.length c, .slice X b.length d, .int .i64 z, .agg #[.int .i64 r, .int .i64 u]] w fun e w' => e = .returned (.bool true) ∧ Below w.heap.size w w' := auditLists_in A c a X d b z r u w ha hc hb hd
end Go.Proofs.Ytinpiodfpnbllaa
