/-
  The reference's bit and Parted: division bit by bit.
-/
import Derived.Test.YtphaojdfeojpeaaParted0
import Derived.Test.YtphaojdfeojpeaaPlainBits
namespace Go.Proofs.Ytphaojdfeojpeaa
open Go.RowKit
set_option linter.unusedVariables false

set_option maxHeartbeats 400000 in
theorem refBit_any (A : Option Addr) (ca : Nat) (a : List Nat) (i : Nat) (w : World) {na : Nat} (hna : a.length = na) (ha : NR w A ca a) (hi : i ≤ 1125899906842624) :
    Calls Try.prog 116 #[.slice A na ca, .int .i64 i] w fun e w' => e = .returned (.int .u64 (val a / 2 ^ i % 2 : Nat)) ∧ w = w' := by
  obtain ⟨j, hj⟩ : ∃ j, i / 32 = j := ⟨_, rfl⟩
  obtain ⟨s, hs⟩ : ∃ s, i % 32 = s := ⟨_, rfl⟩
  have e1 : (i : Int) / 32 = j := by omega
  have e2 : (i : Int) % 32 = s := by omega
  have hs2 : (s : Int) ≤ 31 := by omega
  have hj2 : j ≤ 4611686018427387904 := by omega
  have hi2 : (i : Int) ≤ 1125899906842624 := int_le_of hi
  have HB := Lib.hid (bit_digit ha.dig i)
  rw [hj, hs] at HB
  have hd : (dg a j : Int) ≤ 4294967295 := by have := dg_lt ha.dig j; omega
  clear hj hs hi
  go_enter Try.func116, Try.ntmps116
  go_wp2_with fail
  refine (refAt_any A ca a j _ hna ha hj2).mono ?_
  rintro e w1 ⟨rfl, rfl⟩
  go_wp2_with fail
  go_ret
  exact ⟨ret_int (by rw [Int.tmod_eq_emod_of_nonneg (Int.ediv_nonneg (by omega) (Int.pow_nonneg (by omega))), ← HB.out]; simp), rfl⟩

/-- Where a cut 's[n:]' leads. -/
def dropA (A : Option Addr) (n c : Nat) : Option Addr := if c = n then A else A.map fun x => x.add n
theorem slice_from (W : World) (A : Option Addr) (m c n : Nat) (h : n ≤ m) :
    (Instr.slice 41 (.slice A m c) (some (.int .i64 (n : Int))) none none).run Try.prog W = .ok (.slice (dropA A n c) (m - n) (c - n)) W := by
  have e : Try.prog.elem 41 = 85 := by kernel_rfl
  rw [run_slice_l (P := Try.prog) (w := W) 41 A m c (by rw [e]; exact Try.underlying41) .i64 n (by omega) (by omega), e, Try.sizeOf85 W]
  simp [Result.andThen, sliced, dropA]
theorem NR.drop {w : World} {A : Option Addr} {c : Nat} {l : List Nat} (h : NR w A c l) (n : Nat) (hn : n ≤ l.length) : NR w (dropA A n c) (c - n) (l.drop n) := by
  have h1 := h.le
  have h2 := h.cap
  have h3 := h.len
  refine ⟨h.1.drop n, by rw [List.length_drop]; omega, ⟨by omega, by rw [List.length_drop]; omega⟩, fun hne => ?_⟩
  have hl : l ≠ [] := fun e => hne (by rw [e]; simp)
  have hlt : n < l.length := by
    rcases Nat.lt_or_ge n l.length with h4 | h4
    · exact h4
    · exact absurd (List.drop_of_length_le h4) hne
  obtain ⟨b, off, e, hb, hc⟩ := h.2.2.2 hl
  refine ⟨b, off + n, by rw [dropA, if_neg (by omega), e]; simp [Addr.add], hb, fun i hi => ?_⟩
  rw [List.length_drop] at hi
  rw [dg_drop, Nat.add_assoc]
  exact hc (n + i) (by omega)
theorem NF.far {B : Nat} {w : World} {A : Option Addr} {c : Nat} {l : List Nat} (h : NF B w A c l) {p : Addr} (hp : p.block < B) (u : Value) : NF B (w.setCell p u) A c l := by
  refine ⟨⟨h.1.1, h.1.2.1, h.1.2.2.1, fun hn => ?_⟩, fun hn => ?_⟩
  · obtain ⟨b, off, e, hb, hc⟩ := h.1.2.2.2 hn
    obtain ⟨b2, off2, e2, hB, _⟩ := h.2 hn
    have hbb : b = b2 := by rw [e] at e2; injection e2 with e2; injection e2
    exact ⟨b, off, e, by simpa using hb, fun i hi => (World.cell?_of_block (Below.heap_setCell w p u b (by omega))).trans (hc i hi)⟩
  · obtain ⟨b, off, e, hB, hf⟩ := h.2 hn
    exact ⟨b, off, e, hB, fun i hi => (World.frozen?_setCell ..).trans (hf i hi)⟩
theorem NF.drew {B : Nat} {w : World} {A : Option Addr} {c : Nat} {l : List Nat} (h : NF B w A c l) : NF B w.drew A c l := ⟨h.1.drew, h.2⟩
theorem digs_len_of_lt {x y : Nat} (h : x < y) : (digs x).length ≤ (digs y).length := digs_len_mono (Nat.le_of_lt h)
theorem add_pow_cast {d s : Nat} (h : d + 2 ^ s < 4294967296) : ((d : Int) + 2 ^ s) % 4294967296 = ((d + 2 ^ s : Nat) : Int) := by
  have e : ((2 ^ s : Nat) : Int) = (2 : Int) ^ s := by simp
  rw [← e]
  clear e
  generalize 2 ^ s = p at *
  omega
theorem toNat_bit (b : Nat) : b % 2 < 18446744073709551616 := by omega
theorem digs_double {x n : Nat} (h : (digs x).length ≤ n) : (digs (x + x)).length ≤ n + 1 := by
  refine digs_len_le ?_
  have := lt_of_digs_len h
  rw [Nat.pow_succ]
  omega

set_option maxHeartbeats 400000 in
set_option maxRecDepth 100000 in
theorem refParted_any (A : Option Addr) (ca : Nat) (a : List Nat) (Bd : Option Addr) (cb : Nat) (b : List Nat) (w : World) {na nb : Nat} (hna : a.length = na) (hnb : b.length = nb) (ha : NR w A ca a) (hb : NR w Bd cb b) (tb : Trm b) (hne : b ≠ []) (la : na ≤ 1048000) (lb : nb ≤ 1048000) :
    Calls Try.prog 101 #[.slice A na ca, .slice Bd nb cb] w fun e w' => PartOut w w' e (val a) (val b) := by
  have Ha := Lib.hid hna
  have Hb := Lib.hid hnb
  have Ra := Lib.hid ha
  have Rb := Lib.hid hb
  by_cases hlt : na < nb
  · have hl : val a < val b := val_lt_of_len ha.dig tb (by omega)
    have hq : val a / val b = 0 := Nat.div_eq_of_lt hl
    have hr : val a % val b = val a := Nat.mod_eq_of_lt hl
    unfold PartOut
    rw [hq, hr]
    clear hna hnb ha hb hl hq hr
    go_enter Try.func101, Try.ntmps101
    go_wp2_with fail
    refine (refTrim_any A ca a _ Ha.out Ra.out).mono ?_
    rintro e w1 ⟨A', c', rfl, hnf, hb1⟩
    go_wp2_with fail
    go_ret2
    exact ⟨none, 0, A', c', rfl, NF.nil _ _, hnf, fun h => absurd rfl h, hb1⟩
  · have hnb1 : 1 ≤ nb := by
      cases b with
      | nil => exact absurd rfl hne
      | cons x l => simp at hnb; omega
    have vpos : Hid (0 < val b) := val_pos tb hne
    obtain ⟨fr, hfr⟩ : ∃ fr : Nat, na - nb + 1 = fr := ⟨_, rfl⟩
    have hfri : (na : Int) - nb + 1 = fr := by omega
    have hfr1 : fr ≤ na := by omega
    have hfr2 : 1 ≤ fr := by omega
    have HI0 := Lib.hid (BitI.first ha.dig tb hne (by omega) na)
    rw [hna, hnb, hfr] at HI0
    have HD0 := Lib.hid (ha.drop fr (by omega))
    have HDL : Hid ((a.drop fr).length = na - fr) := by unfold Hid; rw [List.length_drop]; omega
    have hsl := fun W => slice_from W A na ca fr hfr1
    clear hna hnb ha hb hfr
    go_enter Try.func101, Try.ntmps101
    go_wp2_with (at_make; refine wpList_make_nat _ rfl _ _ rfl na rfl rfl (by omega) (by omega) (by omega) ?_; intro w1 hk1 hb1 hs1)
    have HK1 := Lib.hid hk1
    clear hk1
    refine (refTrim_any _ _ (a.drop fr) _ HDL.out (HD0.out.below hb1)).mono ?_
    rintro e w2 ⟨R, cr, rfl, hnf, hb2⟩
    go_wp2_with fail
    have hb20 : Below w.heap.size w w2 := hb1.trans (hb2.mono (by omega))
    have HK2 : Hid (BlkN w2 w.heap.size (List.replicate na 0)) := HK1.out.below' hb2
    have HR2 : Hid (NF (w.heap.size + 1) w2 R cr (digs (val (a.drop fr)))) := hnf.mono hs1
    have hq0 : w.heap.size < w2.heap.size := HK2.out.lt
    have HW1 : Hid (w.heap.size < w1.heap.size) := hs1
    clear hnf hb1 hb2 hs1
    go_loopw [8, 9] (fun vr vi wr => ∃ (i r : Nat) (q : List Nat) (R : Option Addr) (cr : Nat), i ≤ 32 * fr ∧ vi = .int .i64 ((i : Int) - 1) ∧ vr = .slice R (digs r).length cr ∧ Hid (BitI (val a) (val b) q r i) ∧ Hid (q.length = na) ∧ Hid (BlkN wr w.heap.size q) ∧ Hid (NF (w.heap.size + 1) wr R cr (digs r)) ∧ Below w.heap.size w wr ∧ w.heap.size < wr.heap.size) (fun _ vi _ => (intOf vi + 1).toNat)
    case atStart =>
      refine ⟨32 * fr, val (a.drop fr), List.replicate na 0, R, cr, Nat.le_refl _, int_cong ?_, rfl, HI0.out, ?_, HK2.out, HR2.out, hb20, hq0⟩
      · omega
      · simp [Hid]
    case round =>
      obtain ⟨i, r, q, R, cr, hi, rfl, rfl, HI, HQL, HQ, HR, hbel, hsz⟩ := hrel
      obtain ⟨wo, rfl⟩ : ∃ wo : World, wo = wr := ⟨_, rfl⟩
      have HLr : Hid ((digs r).length ≤ nb) := by
        have h1 := digs_len_of_lt (HI.out.lt vpos.out)
        rw [digs_val Rb.out.dig tb, Hb.out] at h1
        exact h1
      by_cases h0 : 0 < i
      · obtain ⟨k, rfl⟩ : ∃ k, i = k + 1 := ⟨i - 1, by omega⟩
        have e1 : ((k + 1 : Nat) : Int) - 1 = k := by omega
        rw [e1]
        clear e1
        have HS1 : Hid ((digs (r + r)).length ≤ nb + 1) := digs_double HLr.out
        have hbt : val a / 2 ^ k % 2 < 18446744073709551616 := toNat_bit _
        obtain ⟨bt, hbte⟩ : ∃ bt, val a / 2 ^ k % 2 = bt := ⟨_, rfl⟩
        have HBT := Lib.hid hbte
        have HI2 := HI.out
        go_wp2_with fail
        refine (refPlus_any R cr (digs r) R cr (digs r) _ rfl rfl HR.out.1 HR.out.1 (by have := HLr.out; omega) (by have := HLr.out; omega)).mono ?_
        rintro e w3 ⟨X, cx, rfl, hx, hb3⟩
        rw [val_digs] at hx ⊢
        have hbA : Below w.heap.size w w3 := hbel.trans (hb3.mono hbel.size)
        go_wp2_with fail
        refine (refBit_any A ca a k _ Ha.out (Ra.out.below hbA) (by omega)).mono ?_
        rintro e w4 ⟨rfl, rfl⟩
        rw [HBT.out]
        go_wp2_with fail
        refine (refOf_any bt _ (by have := HBT.out; omega)).mono ?_
        rintro e w5 ⟨Y, cy, rfl, hy, hb5⟩
        have hbB : Below w.heap.size w w5 := hbA.trans (hb5.mono hbA.size)
        go_wp2_with fail
        refine (refPlus_any X cx (digs (r + r)) Y cy (digs bt) _ rfl rfl (hx.1.below hb5) hy.1 (by have := HS1.out; omega) (by have := digs_len_le (n := bt) (k := 1) (by have := HBT.out; omega); omega)).mono ?_
        rintro e w6 ⟨Z, cz, rfl, hz, hb6⟩
        rw [val_digs, val_digs] at hz ⊢
        have hbC : Below w.heap.size w w6 := hbB.trans (hb6.mono hbB.size)
        obtain ⟨y, hy2⟩ : ∃ y, r + r + bt = y := ⟨_, rfl⟩
        rw [hy2] at hz ⊢
        have HY : Hid (2 * r + val a / 2 ^ k % 2 = y) := by have := HBT.out; unfold Hid; omega
        have HZ : Hid (NF (w.heap.size + 1) w6 Z cz (digs y)) := hz.mono (by have := hbB.size; have := hb5.size; have := hb3.size; omega)
        have HQ6 : Hid (BlkN w6 w.heap.size q) := ((HQ.out.below' hb3).below' hb5).below' hb6
        have hsz6 : w.heap.size < w6.heap.size := HQ6.out.lt
        clear hx hy hz hb3 hb5 hb6 hy2 hbA hbB
        go_wp2_with fail
        refine (refOrder_any Z cz (digs y) Bd cb b _ rfl Hb.out HZ.out.1 (Rb.out.below hbC)).mono ?_
        rintro e w7 ⟨rfl, rfl⟩
        rw [val_digs]
        by_cases hlow : y < val b
        · rw [cmpN_lt hlow]
          have HLOW := Lib.hid (HI.out.low vpos.out (by rw [HY.out]; exact hlow))
          rw [HY.out] at HLOW
          clear hlow
          go_wp2_with fail
          go_roundw
          case rel => exact ⟨k, y, q, Z, cz, by omega, rfl, rfl, HLOW.out, HQL.out, HQ6.out, HZ.out, hbC, hsz6⟩
          case measure => simp [intOf]
        · obtain ⟨z, hz, hz0⟩ : ∃ z : Int, cmpN y (val b) = z ∧ decide (0 ≤ z) = true := ⟨_, rfl, by rcases cmpN_cases y (val b) with ⟨h, e⟩ | ⟨h, e⟩ | ⟨h, e⟩ <;> rw [e] <;> first | omega | rfl⟩
          rw [hz]
          have hjq : k / 32 < q.length := by have := HQL.out; omega
          have HHI := Lib.hid (HI.out.high vpos.out hjq (by rw [HY.out]; omega))
          have HRM := Lib.hid HI.out.room
          rw [HY.out] at HHI
          obtain ⟨j, hj⟩ : ∃ j, k / 32 = j := ⟨_, rfl⟩
          obtain ⟨s, hs⟩ : ∃ s, k % 32 = s := ⟨_, rfl⟩
          have e1 : (k : Int) / 32 = j := by omega
          have e2 : (k : Int) % 32 = s := by omega
          have hs2 : (s : Int) ≤ 31 := by omega
          rw [hj] at HHI HRM hjq
          rw [hs] at HHI HRM
          have HLE : Hid (val b ≤ y) := by unfold Hid; omega
          have hjn : j < na := by have := HQL.out; omega
          clear hz hlow hj hs
          go_wp2_with fail
          refine (refMinus_any Z cz (digs y) Bd cb b _ rfl Hb.out HZ.out.1 (Rb.out.below hbC) tb (by rw [val_digs]; exact HLE.out)).mono ?_
          rintro e w8 ⟨M, cm, rfl, hm, hb8⟩
          rw [val_digs] at hm ⊢
          have HQ8 : Hid (BlkN w8 w.heap.size q) := HQ6.out.below' hb8
          have hbD : Below w.heap.size w w8 := hbC.trans (hb8.mono hbC.size)
          have HM : Hid (NF (w.heap.size + 1) w8 M cm (digs (y - val b))) := hm.mono (by omega)
          have hcell := HQ8.out.cell (i := j) hjq
          have hfr := HQ8.out.frozen j
          have hdq : (dg q j : Int) ≤ 4294967295 := by have := dg_lt HQ8.out.2 j; omega
          clear hm hb8
          go_wp2_with fail
          go_region
          go_wp2_with fail
          have HV : Hid (Value.int .u32 (((dg q j : Int) + 2 ^ s) % 4294967296) = .int .u32 ((dg q j + 2 ^ s : Nat) : Int)) := int_cong (add_pow_cast HRM.out)
          have HBS := HQ8.out.set j HRM.out
          rw [HV.out]
          go_roundw
          case rel => exact ⟨k, _, _, M, cm, by omega, rfl, rfl, HHI.out, by have := HQL.out; simp [Hid, this], HBS.drew, (HM.out.far (p := ⟨w.heap.size, j, none⟩) (Nat.lt_succ_self _) _).drew, (hbD.setCell (Nat.le_refl _) _).drew, by have := hbD.size; have := HQ8.out.lt; simpa using this⟩
          case measure => simp [intOf]
      · obtain rfl : i = 0 := by omega
        obtain ⟨hq, hr⟩ := HI.out.fin
        have HQV := Lib.hid hq
        have HRV := Lib.hid hr
        clear hq hr
        have nfq := Lib.hid (HQ.out.nf (B := w.heap.size) (c := na) (Nat.le_refl _) (by have := HQL.out; omega) (by omega) (by have := HQL.out; omega))
        go_wp2_with fail
        refine (refTrim_any _ _ q _ HQL.out nfq.out.1).mono ?_
        rintro e w4 ⟨Q, cq, rfl, hQ, hb4⟩
        rw [HQV.out] at hQ ⊢
        go_wp2_with fail
        go_ret2
        have hR := HR.out.below hb4
        rw [HRV.out] at hR ⊢
        refine ⟨Q, cq, R, cr, rfl, hQ.mono hbel.size, hR.mono (by omega), ?_, hbel.trans (hb4.mono hbel.size)⟩
        intro n1 n2 g o h p e1 e2
        obtain ⟨g', o', e3, hB, _⟩ := hQ.2 n1
        have hR1 := HR.out
        rw [HRV.out] at hR1
        obtain ⟨h', p', e4, hlt, _⟩ := hR1.1.2.2.2 n2
        rw [e1] at e3
        rw [e2] at e4
        injection e3 with e3
        injection e3 with e3
        injection e4 with e4
        injection e4 with e4
        omega
end Go.Proofs.Ytphaojdfeojpeaa
