/-
  Lemmas and contracts, joined: part 6.
-/
import Derived.Deep.QuietTactic
import Derived.BigQuiet
import Derived.Test.YtinpiodfpnbllaaAuditVerifiesB5
set_option linter.unusedSimpArgs false
set_option linter.unusedVariables false
set_option linter.unnecessarySimpa false
/- Which proofs and growths fit: the program's test. -/
namespace Go.Proofs.Ytinpiodfpnbllaa
open Go.RowKit
set_option linter.unusedVariables false
set_option linter.unusedSimpArgs false

def fitsB (a b : Int) (n : Nat) : Bool := decide (1 ≤ a ∧ a ≤ 128 ∧ 0 ≤ b ∧ b < a) && decide (n = stepsS a.toNat b.toNat)
def fitsGB (a b : Int) (n : Nat) : Bool := decide (1 ≤ a ∧ a ≤ b ∧ b ≤ 128) && decide (n = partsS b.toNat a.toNat true)
theorem fitsB_no {a b : Int} {n : Nat} (h : ¬ (1 ≤ a ∧ a ≤ 128 ∧ 0 ≤ b ∧ b < a)) : fitsB a b n = false := by unfold fitsB; rw [decide_eq_false h]; rfl
theorem fitsB_in {a b : Int} {n : Nat} (h : 1 ≤ a ∧ a ≤ 128 ∧ 0 ≤ b ∧ b < a) : fitsB a b n = decide (n = stepsS a.toNat b.toNat) := by unfold fitsB; rw [decide_eq_true h]; rfl
theorem fitsGB_no {a b : Int} {n : Nat} (h : ¬ (1 ≤ a ∧ a ≤ b ∧ b ≤ 128)) : fitsGB a b n = false := by unfold fitsGB; rw [decide_eq_false h]; rfl
theorem fitsGB_in {a b : Int} {n : Nat} (h : 1 ≤ a ∧ a ≤ b ∧ b ≤ 128) : fitsGB a b n = decide (n = partsS b.toNat a.toNat true) := by unfold fitsGB; rw [decide_eq_true h]; rfl
theorem fitsB_iff {a b : Int} {n : Nat} : fitsB a b n = true ↔ (1 ≤ a ∧ a ≤ 128 ∧ 0 ≤ b ∧ b < a) ∧ n = stepsS a.toNat b.toNat := by simp [fitsB]
theorem fitsGB_iff {a b : Int} {n : Nat} : fitsGB a b n = true ↔ (1 ≤ a ∧ a ≤ b ∧ b ≤ 128) ∧ n = partsS b.toNat a.toNat true := by simp [fitsGB]

set_option maxHeartbeats 2000000 in
set_option maxRecDepth 100000 in
theorem fits_any (a b : Int) (A : Option Addr) (n c : Nat) (w : World) (hn : n ≤ 140737488351232) :
    Calls Try.prog 75 #[.agg (prC a b A n c).toArray] w fun e w' => e = .returned (.bool (fitsB a b n)) ∧ Below w.heap.size w w' := by
  have b0 := alloc_bel w (.cells #[.int .i64 a, .int .i64 b, .slice A n c] 52)
  have hni : (n : Int) ≤ 140737488351232 := by omega
  unfold prC
  rcases (by omega : a < 1 ∨ (1 ≤ a ∧ 128 < a) ∨ (1 ≤ a ∧ a ≤ 128 ∧ b < 0) ∨ (1 ≤ a ∧ a ≤ 128 ∧ 0 ≤ b ∧ a ≤ b) ∨ (1 ≤ a ∧ a ≤ 128 ∧ 0 ≤ b ∧ b < a)) with h | ⟨h1, h2⟩ | ⟨h1, h2, h3⟩ | ⟨h1, h2, h3, h4⟩ | ⟨h1, h2, h3, h4⟩
  · have HF : Hid (fitsB a b n = false) := fitsB_no (by omega)
    go_enter Try.func75, Try.ntmps75
    go_wp2
    go_ret
    exact ⟨by rw [HF.out]; rfl, b0⟩
  · have HF : Hid (fitsB a b n = false) := fitsB_no (by omega)
    go_enter Try.func75, Try.ntmps75
    go_wp2
    go_ret
    exact ⟨by rw [HF.out]; rfl, b0⟩
  · have HF : Hid (fitsB a b n = false) := fitsB_no (by omega)
    go_enter Try.func75, Try.ntmps75
    go_wp2
    go_ret
    exact ⟨by rw [HF.out]; rfl, b0⟩
  · have HF : Hid (fitsB a b n = false) := fitsB_no (by omega)
    go_enter Try.func75, Try.ntmps75
    go_wp2
    go_ret
    exact ⟨by rw [HF.out]; rfl, b0⟩
  · have HF : Hid (fitsB a b n = decide (n = stepsS a.toNat b.toNat)) := fitsB_in ⟨h1, h2, h3, h4⟩
    obtain ⟨p, rfl⟩ : ∃ p : Nat, a = (p : Int) := ⟨a.toNat, by omega⟩
    obtain ⟨q, rfl⟩ : ∃ q : Nat, b = (q : Int) := ⟨b.toNat, by omega⟩
    rw [Int.toNat_natCast, Int.toNat_natCast] at HF
    obtain ⟨T, hT⟩ : ∃ T, stepsS p q = T := ⟨_, rfl⟩
    have HT := Lib.hid hT
    rw [hT] at HF
    clear hT
    have hqp : q < p := by omega
    have hp1 : 1 ≤ p := by omega
    have hp2 : p ≤ 128 := by omega
    have HB0 := Lib.hid b0
    have c0 : Hid ((w.alloc (.cells #[.int .i64 (p : Int), .int .i64 (q : Int), .slice A n c] 52)).cell? ⟨w.heap.size, 0, none⟩ = some (.int .i64 (p : Int))) := (Blk.new w _ _).cell 0
    have c1 : Hid ((w.alloc (.cells #[.int .i64 (p : Int), .int .i64 (q : Int), .slice A n c] 52)).cell? ⟨w.heap.size, 1, none⟩ = some (.int .i64 (q : Int))) := (Blk.new w _ _).cell 1
    have c2 : Hid ((w.alloc (.cells #[.int .i64 (p : Int), .int .i64 (q : Int), .slice A n c] 52)).cell? ⟨w.heap.size, 2, none⟩ = some (.slice A n c)) := (Blk.new w _ _).cell 2
    clear b0
    go_enter Try.func75, Try.ntmps75
    go_wp2_with fail
    generalize w.alloc (.cells #[.int .i64 (p : Int), .int .i64 (q : Int), .slice A n c] 52) = W0 at HB0 c0 c1 c2 ⊢
    refine wp_region_noPanic ?_
    refine wp_region_held_drew (S := fun w' => w'.cell? ⟨w.heap.size, 0, none⟩ = some (.int .i64 (p : Int)) ∧ w'.cell? ⟨w.heap.size, 1, none⟩ = some (.int .i64 (q : Int))) (by kernel_rfl) ⟨c0.out, c1.out⟩ (fun hS => ?_)
    refine hd_take 0 (_) rfl rfl (by kernel_rfl) (by kernel_rfl) (by kernel_rfl) (fun _ _ _ h => h) (fun w _ => by go_simp <;> rfl) hS ?_
    refine hd_take 2 (_) rfl rfl (by kernel_rfl) (by kernel_rfl) (by kernel_rfl) (fun _ _ _ h => h) (fun w _ => by go_simp <;> rfl) hS ?_
    simp only [List.getElem_toArray, List.getElem_cons_succ, List.getElem_cons_zero, Act.put, List.setIfInBounds_toArray, List.set_cons_zero, List.set_cons_succ]
    refine hd_take 1 (.int .i64 (p : Int)) rfl rfl (by kernel_rfl) (by kernel_rfl) (by kernel_rfl) (fun _ _ _ h => h) (fun w hw => by have hx := hw.1; simp [go_sem, hx]) hS ?_
    refine hd_take 3 (.int .i64 (q : Int)) rfl rfl (by kernel_rfl) (by kernel_rfl) (by kernel_rfl) (fun _ _ _ h => h) (fun w hw => by have hx := hw.2; simp [go_sem, hx]) hS ?_
    simp only [List.getElem_toArray, List.getElem_cons_succ, List.getElem_cons_zero, Act.put, List.setIfInBounds_toArray, List.set_cons_zero, List.set_cons_succ]
    refine hd_take 4 (_) rfl rfl (by kernel_rfl) (by kernel_rfl) (by kernel_rfl) (fun _ _ _ h => h) (fun w _ => by go_simp <;> rfl) hS ?_
    refine hd_take 5 (_) rfl rfl (by kernel_rfl) (by kernel_rfl) (by kernel_rfl) (fun _ _ _ h => h) (fun w _ => by go_simp <;> rfl) hS ?_
    simp only [List.getElem_toArray, List.getElem_cons_succ, List.getElem_cons_zero, Act.put, List.setIfInBounds_toArray, List.set_cons_zero, List.set_cons_succ]
    refine wpAnyH_done (by kernel_rfl) (NoPanic.normal ?_) _
    have C2 : W0.drew.cell? ⟨w.heap.size, 2, none⟩ = some (.slice A n c) := c2.out
    have HD := Lib.hid (HB0.out.drew)
    generalize W0.drew = W1 at C2 HD ⊢
    clear hS c0 c1 c2 HB0
    go_wp2_with fail
    have e1 : decide ((p : Int) < 1) = false := decide_eq_false (by omega)
    have e2 : decide ((128 : Int) < (p : Int)) = false := decide_eq_false (by omega)
    have e3 : decide ((q : Int) < 0) = false := decide_eq_false (by omega)
    have e4 : decide (p ≤ q) = false := decide_eq_false (by omega)
    simp only [e1, e2, e3, e4, Bool.or_false]
    clear e1 e2 e3 e4
    go_loop [3, 4, 5] (fun v3 v4 v5 => ∃ s k j : Nat, v3 = .int .i64 (s : Int) ∧ v4 = .int .i64 (k : Int) ∧ v5 = .int .i64 (j : Int) ∧ 1 ≤ k ∧ j < k ∧ s + k ≤ 129 ∧ s + stepsS k j = T) (fun _ v4 _ => (intOf v4).toNat)
    case atStart => exact ⟨0, p, q, rfl, rfl, rfl, hp1, hqp, by omega, by rw [HT.out]; omega⟩
    case round =>
      obtain ⟨s, k, j, rfl, rfl, rfl, hk1, hjk, hsk, hst⟩ := hrel
      by_cases hk2 : 2 ≤ k
      · have hs1 := splitS_pos k
        have hs2 := splitS_lt hk2
        have hkb : (k : Int) ≤ 129 := by omega
        have hsb : (s : Int) ≤ 129 := by omega
        have hgt : (1 : Int) < (k : Int) := by omega
        have HSP : Hid (∀ W, Calls Try.prog 72 #[.int .i64 (k : Int)] W fun e w' => e = .returned (.int .i64 ((splitS k : Nat) : Int)) ∧ W = w') := fun W => split_any k W hk2 (by omega)
        by_cases hlt : j < splitS k
        · have HN : Hid (s + 1 + stepsS (splitS k) j = T) := by unfold Hid; rw [← hst, stepsS_low hk2 hlt]; omega
          generalize splitS k = m at *
          have hji : (j : Int) < (m : Int) := by omega
          clear hst
          go_wp2_with (go_at_call 72; refine (HSP.out _).mono ?_; rintro e w1 ⟨rfl, rfl⟩)
          go_round
          case rel => exact ⟨s + 1, m, j, by go_num, rfl, rfl, hs1, hlt, by omega, HN.out⟩
          case measure => simp [intOf]; omega
        · have HN : Hid (s + 1 + stepsS (k - splitS k) (j - splitS k) = T) := by unfold Hid; rw [← hst, stepsS_high hk2 hlt]; omega
          generalize splitS k = m at *
          have hji : ¬ (j : Int) < (m : Int) := by omega
          have hmj : (m : Int) ≤ (j : Int) := by omega
          have hmk : (m : Int) < (k : Int) := by omega
          clear hst
          go_wp2_with (go_at_call 72; refine (HSP.out _).mono ?_; rintro e w1 ⟨rfl, rfl⟩)
          go_round
          case rel => exact ⟨s + 1, k - m, j - m, by go_num, by rw [show ((k - m : Nat) : Int) = (k : Int) - (m : Int) from by omega], by rw [show ((j - m : Nat) : Int) = (j : Int) - (m : Int) from by omega], by omega, by omega, by omega, HN.out⟩
          case measure => simp [intOf]; omega
      · obtain rfl : k = 1 := by omega
        have hs : s = T := by rw [stepsS_one (by omega)] at hst; omega
        subst hs
        clear hst
        by_cases he : n = s
        · subst he
          have HF' : Hid (fitsB (p : Int) (q : Int) n = true) := by unfold Hid; rw [HF.out]; simp
          clear HF HT
          go_wp2_with fail
          go_ret
          exact ⟨by rw [HF'.out]; rfl, HD.out⟩
        · have HF' : Hid (fitsB (p : Int) (q : Int) n = false) := by unfold Hid; rw [HF.out]; simp [he]
          have hei : ((n : Int) == (s : Int)) = false := by rw [beq_eq_false_iff_ne]; omega
          clear HF HT
          go_wp2_with fail
          go_ret
          exact ⟨by rw [HF'.out]; rfl, HD.out⟩

set_option maxHeartbeats 2000000 in
set_option maxRecDepth 100000 in
theorem fitsGrowth_any (a b : Int) (A : Option Addr) (n c : Nat) (w : World) (hn : n ≤ 140737488351232) :
    Calls Try.prog 81 #[.agg (prC a b A n c).toArray] w fun e w' => e = .returned (.bool (fitsGB a b n)) ∧ Below w.heap.size w w' := by
  have b0 := alloc_bel w (.cells #[.int .i64 a, .int .i64 b, .slice A n c] 59)
  have hni : (n : Int) ≤ 140737488351232 := by omega
  unfold prC
  rcases (by omega : a < 1 ∨ (1 ≤ a ∧ b < a) ∨ (1 ≤ a ∧ a ≤ b ∧ 128 < b) ∨ (1 ≤ a ∧ a ≤ b ∧ b ≤ 128)) with h | ⟨h1, h2⟩ | ⟨h1, h2, h3⟩ | ⟨h1, h2, h3⟩
  · have HF : Hid (fitsGB a b n = false) := fitsGB_no (by omega)
    go_enter Try.func81, Try.ntmps81
    go_wp2
    go_ret
    exact ⟨by rw [HF.out]; rfl, b0⟩
  · have HF : Hid (fitsGB a b n = false) := fitsGB_no (by omega)
    go_enter Try.func81, Try.ntmps81
    go_wp2
    go_ret
    exact ⟨by rw [HF.out]; rfl, b0⟩
  · have HF : Hid (fitsGB a b n = false) := fitsGB_no (by omega)
    go_enter Try.func81, Try.ntmps81
    go_wp2
    go_ret
    exact ⟨by rw [HF.out]; rfl, b0⟩
  · have HF : Hid (fitsGB a b n = decide (n = partsS b.toNat a.toNat true)) := fitsGB_in ⟨h1, h2, h3⟩
    obtain ⟨q, rfl⟩ : ∃ q : Nat, a = (q : Int) := ⟨a.toNat, by omega⟩
    obtain ⟨p, rfl⟩ : ∃ p : Nat, b = (p : Int) := ⟨b.toNat, by omega⟩
    rw [Int.toNat_natCast, Int.toNat_natCast] at HF
    obtain ⟨T, hT⟩ : ∃ T, partsS p q true = T := ⟨_, rfl⟩
    have HT := Lib.hid hT
    rw [hT] at HF
    clear hT
    have hqp : q ≤ p := by omega
    have hp1 : 1 ≤ q := by omega
    have hp2 : p ≤ 128 := by omega
    have HB0 := Lib.hid b0
    have c0 : Hid ((w.alloc (.cells #[.int .i64 (q : Int), .int .i64 (p : Int), .slice A n c] 59)).cell? ⟨w.heap.size, 0, none⟩ = some (.int .i64 (q : Int))) := (Blk.new w _ _).cell 0
    have c1 : Hid ((w.alloc (.cells #[.int .i64 (q : Int), .int .i64 (p : Int), .slice A n c] 59)).cell? ⟨w.heap.size, 1, none⟩ = some (.int .i64 (p : Int))) := (Blk.new w _ _).cell 1
    have c2 : Hid ((w.alloc (.cells #[.int .i64 (q : Int), .int .i64 (p : Int), .slice A n c] 59)).cell? ⟨w.heap.size, 2, none⟩ = some (.slice A n c)) := (Blk.new w _ _).cell 2
    clear b0
    go_enter Try.func81, Try.ntmps81
    go_wp2_with fail
    generalize w.alloc (.cells #[.int .i64 (q : Int), .int .i64 (p : Int), .slice A n c] 59) = W0 at HB0 c0 c1 c2 ⊢
    refine wp_region_noPanic ?_
    refine wp_region_held_drew (S := fun w' => w'.cell? ⟨w.heap.size, 0, none⟩ = some (.int .i64 (q : Int)) ∧ w'.cell? ⟨w.heap.size, 1, none⟩ = some (.int .i64 (p : Int))) (by kernel_rfl) ⟨c0.out, c1.out⟩ (fun hS => ?_)
    refine hd_take 0 (_) rfl rfl (by kernel_rfl) (by kernel_rfl) (by kernel_rfl) (fun _ _ _ h => h) (fun w _ => by go_simp <;> rfl) hS ?_
    refine hd_take 2 (_) rfl rfl (by kernel_rfl) (by kernel_rfl) (by kernel_rfl) (fun _ _ _ h => h) (fun w _ => by go_simp <;> rfl) hS ?_
    simp only [List.getElem_toArray, List.getElem_cons_succ, List.getElem_cons_zero, Act.put, List.setIfInBounds_toArray, List.set_cons_zero, List.set_cons_succ]
    refine hd_take 1 (.int .i64 (p : Int)) rfl rfl (by kernel_rfl) (by kernel_rfl) (by kernel_rfl) (fun _ _ _ h => h) (fun w hw => by have hx := hw.2; simp [go_sem, hx]) hS ?_
    refine hd_take 3 (.int .i64 (q : Int)) rfl rfl (by kernel_rfl) (by kernel_rfl) (by kernel_rfl) (fun _ _ _ h => h) (fun w hw => by have hx := hw.1; simp [go_sem, hx]) hS ?_
    simp only [List.getElem_toArray, List.getElem_cons_succ, List.getElem_cons_zero, Act.put, List.setIfInBounds_toArray, List.set_cons_zero, List.set_cons_succ]
    refine hd_take 4 (_) rfl rfl (by kernel_rfl) (by kernel_rfl) (by kernel_rfl) (fun _ _ _ h => h) (fun w _ => by go_simp <;> rfl) hS ?_
    refine hd_take 5 (_) rfl rfl (by kernel_rfl) (by kernel_rfl) (by kernel_rfl) (fun _ _ _ h => h) (fun w _ => by go_simp <;> rfl) hS ?_
    simp only [List.getElem_toArray, List.getElem_cons_succ, List.getElem_cons_zero, Act.put, List.setIfInBounds_toArray, List.set_cons_zero, List.set_cons_succ]
    refine wpAnyH_done (by kernel_rfl) (NoPanic.normal ?_) _
    have C2 : W0.drew.cell? ⟨w.heap.size, 2, none⟩ = some (.slice A n c) := c2.out
    have HD := Lib.hid (HB0.out.drew)
    generalize W0.drew = W1 at C2 HD ⊢
    clear hS c0 c1 c2 HB0
    go_wp2_with fail
    have e1 : decide ((q : Int) < 1) = false := decide_eq_false (by omega)
    have e2 : decide ((128 : Int) < (p : Int)) = false := decide_eq_false (by omega)
    have e4 : decide (p < q) = false := decide_eq_false (by omega)
    simp only [e1, e2, e4, Bool.or_false]
    clear e1 e2 e4
    go_loop [3, 4, 5, 6] (fun v3 v4 v5 v6 => ∃ (s z k j : Nat) (wh : Bool), v3 = .int .i64 (s : Int) ∧ v4 = .int .i64 (z : Int) ∧ v5 = .int .i64 (k : Int) ∧ v6 = .int .i64 (j : Int) ∧ 1 ≤ j ∧ j ≤ k ∧ s + k ≤ 129 ∧ z = (if wh then 0 else 1) ∧ s + partsS k j wh = T) (fun _ _ v5 _ => (intOf v5).toNat)
    case atStart => exact ⟨0, 0, p, q, true, rfl, rfl, rfl, rfl, hp1, hqp, by omega, rfl, by rw [HT.out]; omega⟩
    case round =>
      obtain ⟨s, z, k, j, wh, rfl, rfl, rfl, rfl, hj1, hjk, hsk, hz, hst⟩ := hrel
      have HZ := Lib.hid hz
      have hz1 : z ≤ 1 := by rw [hz]; split <;> omega
      clear hz
      by_cases hk2 : j < k
      · have hs1 := splitS_pos k
        have hs2 := splitS_lt (n := k) (by omega)
        have hkb : (k : Int) ≤ 129 := by omega
        have hsb : (s : Int) ≤ 129 := by omega
        have hgt : (j : Int) < (k : Int) := by omega
        have HSP : Hid (∀ W, Calls Try.prog 72 #[.int .i64 (k : Int)] W fun e w' => e = .returned (.int .i64 ((splitS k : Nat) : Int)) ∧ W = w') := fun W => split_any k W (by omega) (by omega)
        by_cases hlt : j ≤ splitS k
        · have HN : Hid (s + 1 + partsS (splitS k) j wh = T) := by unfold Hid; rw [← hst, partsS_low _ (by omega) (by omega) hlt]; omega
          generalize splitS k = m at *
          have hji : (j : Int) ≤ (m : Int) := by omega
          clear hst
          go_wp2_with (go_at_call 72; refine (HSP.out _).mono ?_; rintro e w1 ⟨rfl, rfl⟩)
          go_round
          case rel => exact ⟨s + 1, z, m, j, wh, by go_num, rfl, rfl, rfl, hj1, hlt, by omega, HZ.out, HN.out⟩
          case measure => simp [intOf]; omega
        · have HN : Hid (s + 1 + partsS (k - splitS k) (j - splitS k) false = T) := by unfold Hid; rw [← hst, partsS_high _ (by omega) (by omega) hlt]; omega
          generalize splitS k = m at *
          have hji : ¬ (j : Int) ≤ (m : Int) := by omega
          have hmj : (m : Int) < (j : Int) := by omega
          have hmk : (m : Int) < (k : Int) := by omega
          clear hst
          go_wp2_with (go_at_call 72; refine (HSP.out _).mono ?_; rintro e w1 ⟨rfl, rfl⟩)
          go_round
          case rel => exact ⟨s + 1, 1, k - m, j - m, false, by go_num, rfl, by rw [show ((k - m : Nat) : Int) = (k : Int) - (m : Int) from by omega], by rw [show ((j - m : Nat) : Int) = (j : Int) - (m : Int) from by omega], by omega, by omega, by omega, rfl, HN.out⟩
          case measure => simp [intOf]; omega
      · obtain rfl : j = k := by omega
        have hs : s + z = T := by rw [HZ.out, ← hst, partsS_end]
        subst hs
        have hge : ¬ (j : Int) < (j : Int) := by omega
        have hzi : (z : Int) ≤ 1 := by omega
        have hsb : (s : Int) ≤ 129 := by omega
        clear hst
        by_cases he : n = s + z
        · have HF' : Hid (fitsGB (q : Int) (p : Int) n = true) := by unfold Hid; rw [HF.out]; simp [he]
          have hei : (n : Int) = (s : Int) + (z : Int) := by omega
          clear HF HT HZ
          subst he
          go_wp2_with fail
          go_ret
          exact ⟨by rw [HF'.out]; rfl, HD.out⟩
        · have HF' : Hid (fitsGB (q : Int) (p : Int) n = false) := by unfold Hid; rw [HF.out]; simp [he]
          have hei : ((n : Int) == (s : Int) + (z : Int)) = false := by rw [beq_eq_false_iff_ne]; omega
          clear HF HT HZ
          go_wp2_with fail
          go_ret
          exact ⟨by rw [HF'.out]; rfl, HD.out⟩
end Go.Proofs.Ytinpiodfpnbllaa

/- Which proofs and growths fit: the reference's test. -/
namespace Go.Proofs.Ytinpiodfpnbllaa
open Go.RowKit
set_option linter.unusedVariables false
set_option linter.unusedSimpArgs false

theorem stepsS_le : ∀ (n i : Nat), stepsS n i ≤ n := by
  intro n
  induction n using Nat.strongRecOn with
  | _ n ih =>
    intro i
    rcases Nat.lt_or_ge n 2 with h2 | h2
    · rw [stepsS_one (by omega)]; omega
    have s1 := splitS_lt h2
    have s2 := splitS_pos n
    by_cases hi : i < splitS n
    · rw [stepsS_low h2 hi]; have := ih (splitS n) s1 i; omega
    · rw [stepsS_high h2 hi]; have := ih (n - splitS n) (by omega) (i - splitS n); omega
theorem partsS_le : ∀ (n m : Nat) (wh : Bool), partsS n m wh ≤ n + 1 := by
  intro n
  induction n using Nat.strongRecOn with
  | _ n ih =>
    intro m wh
    rw [partsS]
    split
    · split <;> omega
    · rename_i h
      have s1 := splitS_lt (n := n) (by omega)
      have s2 := splitS_pos n
      dsimp only
      split
      · have := ih (splitS n) s1 m wh; omega
      · have := ih (n - splitS n) (by omega) (m - splitS n) false; omega

set_option maxHeartbeats 1000000 in
theorem refSteps_any (n : Nat) : ∀ (i : Nat) (w : World), 1 ≤ n → n ≤ 1000 → i < n →
    Calls Try.prog 133 #[.int .i64 (n : Int), .int .i64 (i : Int)] w fun e w' => e = .returned (.int .i64 ((stepsS n i : Nat) : Int)) ∧ w = w' := by
  induction n using Nat.strongRecOn with
  | _ n ih =>
    intro i w h1 hbig hi
    rcases Nat.lt_or_ge n 2 with h2 | h2
    · obtain rfl : n = 1 := by omega
      rw [stepsS_one (by omega)]
      clear ih
      go_enter Try.func133, Try.ntmps133
      go_wp2
      go_ret
      exact ⟨rfl, rfl⟩
    have s1 := splitS_lt h2
    have s2 := splitS_pos n
    have hni : (2 : Int) ≤ (n : Int) := by omega
    have hnb : (n : Int) ≤ 1000 := by omega
    have hne1 : ¬ (n : Int) = 1 := by omega
    have HSP : Hid (∀ W, Calls Try.prog 127 #[.int .i64 (n : Int)] W fun e w' => e = .returned (.int .i64 ((splitS n : Nat) : Int)) ∧ W = w') := fun W => refSplit_any n W h2 (by omega)
    by_cases hk : i < splitS n
    · have hki : (i : Int) < ((splitS n : Nat) : Int) := by omega
      have HST : Hid (stepsS n i = 1 + stepsS (splitS n) i) := stepsS_low h2 hk
      have HC : Hid (∀ W, Calls Try.prog 133 #[.int .i64 ((splitS n : Nat) : Int), .int .i64 (i : Int)] W fun e w' => e = .returned (.int .i64 ((stepsS (splitS n) i : Nat) : Int)) ∧ W = w') := fun W => ih (splitS n) s1 i W s2 (by omega) hk
      have hle := stepsS_le (splitS n) i
      generalize stepsS (splitS n) i = r at HST HC hle
      have hri : (r : Int) ≤ 1000 := by omega
      generalize splitS n = k at *
      clear ih hle hi hk
      go_enter Try.func133, Try.ntmps133
      go_wp2_with (first
        | (go_at_call 127; refine (HSP.out _).mono ?_; rintro e w1 ⟨rfl, rfl⟩)
        | (go_at_call 133; refine (HC.out _).mono ?_; rintro e w1 ⟨rfl, rfl⟩))
      go_ret
      exact ⟨by rw [HST.out]; go_num, rfl⟩
    · have hki : ¬ (i : Int) < ((splitS n : Nat) : Int) := by omega
      have hki2 : ((splitS n : Nat) : Int) ≤ (i : Int) := by omega
      have hkn : ((splitS n : Nat) : Int) < (n : Int) := by omega
      have hib : (i : Int) < (n : Int) := by omega
      have HST : Hid (stepsS n i = 1 + stepsS (n - splitS n) (i - splitS n)) := stepsS_high h2 hk
      have HC : Hid (∀ W, Calls Try.prog 133 #[.int .i64 ((n : Int) - ((splitS n : Nat) : Int)), .int .i64 ((i : Int) - ((splitS n : Nat) : Int))] W fun e w' => e = .returned (.int .i64 ((stepsS (n - splitS n) (i - splitS n) : Nat) : Int)) ∧ W = w') := fun W => by
        rw [show (n : Int) - ((splitS n : Nat) : Int) = ((n - splitS n : Nat) : Int) from by omega, show (i : Int) - ((splitS n : Nat) : Int) = ((i - splitS n : Nat) : Int) from by omega]
        exact ih (n - splitS n) (by omega) (i - splitS n) W (by omega) (by omega) (by omega)
      have hle := stepsS_le (n - splitS n) (i - splitS n)
      generalize stepsS (n - splitS n) (i - splitS n) = r at HST HC hle
      have hri : (r : Int) ≤ 1000 := by omega
      generalize splitS n = k at *
      clear ih hle hi hk
      go_enter Try.func133, Try.ntmps133
      go_wp2_with (first
        | (go_at_call 127; refine (HSP.out _).mono ?_; rintro e w1 ⟨rfl, rfl⟩)
        | (go_at_call 133; refine (HC.out _).mono ?_; rintro e w1 ⟨rfl, rfl⟩))
      go_ret
      exact ⟨by rw [HST.out]; go_num, rfl⟩

set_option maxHeartbeats 1000000 in
theorem refParts_any (n : Nat) : ∀ (m : Nat) (wh : Bool) (w : World), 1 ≤ m → m ≤ n → n ≤ 1000 →
    Calls Try.prog 135 #[.int .i64 (n : Int), .int .i64 (m : Int), .bool wh] w fun e w' => e = .returned (.int .i64 ((partsS n m wh : Nat) : Int)) ∧ w = w' := by
  induction n using Nat.strongRecOn with
  | _ n ih =>
    intro m wh w h1 hm hbig
    by_cases he : m = n
    · subst he
      rw [partsS_end]
      clear ih
      have hnb : (m : Int) ≤ 1000 := by omega
      cases wh with
      | true =>
        go_enter Try.func135, Try.ntmps135
        go_wp2
        go_ret
        exact ⟨rfl, rfl⟩
      | false =>
        go_enter Try.func135, Try.ntmps135
        go_wp2
        go_ret
        exact ⟨rfl, rfl⟩
    have h2 : 2 ≤ n := by omega
    have s1 := splitS_lt h2
    have s2 := splitS_pos n
    have hni : (2 : Int) ≤ (n : Int) := by omega
    have hnb : (n : Int) ≤ 1000 := by omega
    have hei : ¬ (m : Int) = (n : Int) := by omega
    have hmb : (m : Int) ≤ (n : Int) := by omega
    have HSP : Hid (∀ W, Calls Try.prog 127 #[.int .i64 (n : Int)] W fun e w' => e = .returned (.int .i64 ((splitS n : Nat) : Int)) ∧ W = w') := fun W => refSplit_any n W h2 (by omega)
    by_cases hk : m ≤ splitS n
    · have hki : (m : Int) ≤ ((splitS n : Nat) : Int) := by omega
      have HST : Hid (partsS n m wh = 1 + partsS (splitS n) m wh) := partsS_low wh h2 he hk
      have HC : Hid (∀ W, Calls Try.prog 135 #[.int .i64 ((splitS n : Nat) : Int), .int .i64 (m : Int), .bool wh] W fun e w' => e = .returned (.int .i64 ((partsS (splitS n) m wh : Nat) : Int)) ∧ W = w') := fun W => ih (splitS n) s1 m wh W h1 hk (by omega)
      have hle := partsS_le (splitS n) m wh
      generalize partsS (splitS n) m wh = r at HST HC hle
      have hri : (r : Int) ≤ 1001 := by omega
      generalize splitS n = k at *
      clear ih hle hm hk he
      go_enter Try.func135, Try.ntmps135
      go_wp2_with (first
        | (go_at_call 127; refine (HSP.out _).mono ?_; rintro e w1 ⟨rfl, rfl⟩)
        | (go_at_call 135; refine (HC.out _).mono ?_; rintro e w1 ⟨rfl, rfl⟩))
      go_ret
      exact ⟨by rw [HST.out]; go_num, rfl⟩
    · have hki : ¬ (m : Int) ≤ ((splitS n : Nat) : Int) := by omega
      have hki2 : ((splitS n : Nat) : Int) < (m : Int) := by omega
      have hkn : ((splitS n : Nat) : Int) < (n : Int) := by omega
      have HST : Hid (partsS n m wh = 1 + partsS (n - splitS n) (m - splitS n) false) := partsS_high wh h2 he hk
      have HC : Hid (∀ W, Calls Try.prog 135 #[.int .i64 ((n : Int) - ((splitS n : Nat) : Int)), .int .i64 ((m : Int) - ((splitS n : Nat) : Int)), .bool false] W fun e w' => e = .returned (.int .i64 ((partsS (n - splitS n) (m - splitS n) false : Nat) : Int)) ∧ W = w') := fun W => by
        rw [show (n : Int) - ((splitS n : Nat) : Int) = ((n - splitS n : Nat) : Int) from by omega, show (m : Int) - ((splitS n : Nat) : Int) = ((m - splitS n : Nat) : Int) from by omega]
        exact ih (n - splitS n) (by omega) (m - splitS n) false W (by omega) (by omega) (by omega)
      have hle := partsS_le (n - splitS n) (m - splitS n) false
      generalize partsS (n - splitS n) (m - splitS n) false = r at HST HC hle
      have hri : (r : Int) ≤ 1001 := by omega
      generalize splitS n = k at *
      clear ih hle hm hk he
      go_enter Try.func135, Try.ntmps135
      go_wp2_with (first
        | (go_at_call 127; refine (HSP.out _).mono ?_; rintro e w1 ⟨rfl, rfl⟩)
        | (go_at_call 135; refine (HC.out _).mono ?_; rintro e w1 ⟨rfl, rfl⟩))
      go_ret
      exact ⟨by rw [HST.out]; go_num, rfl⟩

set_option maxHeartbeats 2000000 in
set_option maxRecDepth 100000 in
theorem refFits_any (a b : Int) (A : Option Addr) (n c : Nat) (w : World) (hn : n ≤ 140737488351232) :
    Calls Try.prog 77 #[.agg (prC a b A n c).toArray] w fun e w' => e = .returned (.bool (fitsB a b n)) ∧ Below w.heap.size w w' := by
  have b0 := alloc_bel w (.cells #[.int .i64 a, .int .i64 b, .slice A n c] 52)
  have hni : (n : Int) ≤ 140737488351232 := by omega
  have c0 : (w.alloc (.cells #[.int .i64 a, .int .i64 b, .slice A n c] 52)).cell? ⟨w.heap.size, 0, none⟩ = some (.int .i64 a) := (Blk.new w _ _).cell 0
  have c1 : (w.alloc (.cells #[.int .i64 a, .int .i64 b, .slice A n c] 52)).cell? ⟨w.heap.size, 1, none⟩ = some (.int .i64 b) := (Blk.new w _ _).cell 1
  have c2 : (w.alloc (.cells #[.int .i64 a, .int .i64 b, .slice A n c] 52)).cell? ⟨w.heap.size, 2, none⟩ = some (.slice A n c) := (Blk.new w _ _).cell 2
  have C0 := Lib.hid c0
  have C1 := Lib.hid c1
  have C2 := Lib.hid c2
  clear c0 c1 c2
  unfold prC
  rcases (by omega : a < 1 ∨ (1 ≤ a ∧ 128 < a) ∨ (1 ≤ a ∧ a ≤ 128 ∧ b < 0) ∨ (1 ≤ a ∧ a ≤ 128 ∧ 0 ≤ b ∧ a ≤ b) ∨ (1 ≤ a ∧ a ≤ 128 ∧ 0 ≤ b ∧ b < a)) with h | ⟨h1, h2⟩ | ⟨h1, h2, h3⟩ | ⟨h1, h2, h3, h4⟩ | ⟨h1, h2, h3, h4⟩
  · have HF : Hid (fitsB a b n = false) := fitsB_no (by omega)
    have s0 : decide ((1 : Int) ≤ a) = false := by simp; omega
    clear hn
    go_enter Try.func77, Try.ntmps77
    go_wp2_with fail
    generalize w.alloc (.cells #[.int .i64 a, .int .i64 b, .slice A n c] 52) = W0 at C0 C1 C2 b0 ⊢
    have c0 := C0.out
    have c1 := C1.out
    have c2 := C2.out
    clear C0 C1 C2
    go_quiet (fail)
    go_wp2_with fail
    go_ret
    exact ⟨by rw [HF.out]; rfl, below_drewN b0 _⟩
  · have HF : Hid (fitsB a b n = false) := fitsB_no (by omega)
    have s0 : decide ((1 : Int) ≤ a) = true := by simp; omega
    have s1 : decide (a ≤ 128) = false := by simp; omega
    clear hn
    go_enter Try.func77, Try.ntmps77
    go_wp2_with fail
    generalize w.alloc (.cells #[.int .i64 a, .int .i64 b, .slice A n c] 52) = W0 at C0 C1 C2 b0 ⊢
    have c0 := C0.out
    have c1 := C1.out
    have c2 := C2.out
    clear C0 C1 C2
    go_quiet (fail)
    go_wp2_with fail
    go_ret
    exact ⟨by rw [HF.out]; rfl, below_drewN b0 _⟩
  · have HF : Hid (fitsB a b n = false) := fitsB_no (by omega)
    have s0 : decide ((1 : Int) ≤ a) = true := by simp; omega
    have s1 : decide (a ≤ 128) = true := by simp; omega
    have s2 : decide ((0 : Int) ≤ b) = false := by simp; omega
    clear hn
    go_enter Try.func77, Try.ntmps77
    go_wp2_with fail
    generalize w.alloc (.cells #[.int .i64 a, .int .i64 b, .slice A n c] 52) = W0 at C0 C1 C2 b0 ⊢
    have c0 := C0.out
    have c1 := C1.out
    have c2 := C2.out
    clear C0 C1 C2
    go_quiet (fail)
    go_wp2_with fail
    go_ret
    exact ⟨by rw [HF.out]; rfl, below_drewN b0 _⟩
  · have HF : Hid (fitsB a b n = false) := fitsB_no (by omega)
    have s0 : decide ((1 : Int) ≤ a) = true := by simp; omega
    have s1 : decide (a ≤ 128) = true := by simp; omega
    have s2 : decide ((0 : Int) ≤ b) = true := by simp; omega
    have s3 : decide (b < a) = false := by simp; omega
    clear hn
    go_enter Try.func77, Try.ntmps77
    go_wp2_with fail
    generalize w.alloc (.cells #[.int .i64 a, .int .i64 b, .slice A n c] 52) = W0 at C0 C1 C2 b0 ⊢
    have c0 := C0.out
    have c1 := C1.out
    have c2 := C2.out
    clear C0 C1 C2
    go_quiet (fail)
    go_wp2_with fail
    go_ret
    exact ⟨by rw [HF.out]; rfl, below_drewN b0 _⟩
  · have HF0 : fitsB a b n = decide (n = stepsS a.toNat b.toNat) := fitsB_in (by omega)
    obtain ⟨p, rfl⟩ : ∃ p : Nat, a = (p : Int) := ⟨a.toNat, by omega⟩
    obtain ⟨q, rfl⟩ : ∃ q : Nat, b = (q : Int) := ⟨b.toNat, by omega⟩
    rw [Int.toNat_natCast, Int.toNat_natCast] at HF0
    have HC : Hid (∀ W, Calls Try.prog 133 #[.int .i64 (p : Int), .int .i64 (q : Int)] W fun e w' => e = .returned (.int .i64 ((stepsS p q : Nat) : Int)) ∧ W = w') := fun W => refSteps_any p q W (by omega) (by omega) (by omega)
    have hle := stepsS_le p q
    generalize stepsS p q = T at HF0 HC hle
    have hTi : (T : Int) ≤ 1001 := by omega
    have s0 : decide ((1 : Int) ≤ (p : Int)) = true := by simp; omega
    have s1 : decide ((p : Int) ≤ 128) = true := by simp; omega
    have s2 : decide ((0 : Int) ≤ (q : Int)) = true := by simp
    have s3 : decide (q < p) = true := by simp; omega
    have s4 : decide ((q : Int) < (p : Int)) = true := by simp; omega
    by_cases he : n = T
    · have HF : Hid (fitsB (p : Int) (q : Int) n = true) := by unfold Hid; rw [HF0, decide_eq_true he]
      subst he
      clear HF0 hn hle
      go_enter Try.func77, Try.ntmps77
      go_wp2_with fail
      generalize w.alloc (.cells #[.int .i64 (p : Int), .int .i64 (q : Int), .slice A n c] 52) = W0 at C0 C1 C2 b0 ⊢
      have c0 := C0.out
      have c1 := C1.out
      have c2 := C2.out
      clear C0 C1 C2
      go_quiet ((go_at_call 133; exact quiet_left' (HC.out _)))
      go_wp2_with fail
      go_ret
      exact ⟨by rw [HF.out]; rfl, below_drewN b0 _⟩
    · have HF : Hid (fitsB (p : Int) (q : Int) n = false) := by unfold Hid; rw [HF0, decide_eq_false he]
      have hei : ((n : Int) == (T : Int)) = false := by rw [beq_eq_false_iff_ne]; omega
      have hei2 : (n == T) = false := by rw [beq_eq_false_iff_ne]; omega
      clear HF0 hn hle he
      go_enter Try.func77, Try.ntmps77
      go_wp2_with fail
      generalize w.alloc (.cells #[.int .i64 (p : Int), .int .i64 (q : Int), .slice A n c] 52) = W0 at C0 C1 C2 b0 ⊢
      have c0 := C0.out
      have c1 := C1.out
      have c2 := C2.out
      clear C0 C1 C2
      go_quiet ((go_at_call 133; exact quiet_left' (HC.out _)))
      go_wp2_with fail
      go_ret
      exact ⟨by rw [HF.out]; rfl, below_drewN b0 _⟩

set_option maxHeartbeats 2000000 in
set_option maxRecDepth 100000 in
theorem refFitsGrowth_any (a b : Int) (A : Option Addr) (n c : Nat) (w : World) (hn : n ≤ 140737488351232) :
    Calls Try.prog 83 #[.agg (prC a b A n c).toArray] w fun e w' => e = .returned (.bool (fitsGB a b n)) ∧ Below w.heap.size w w' := by
  have b0 := alloc_bel w (.cells #[.int .i64 a, .int .i64 b, .slice A n c] 59)
  have hni : (n : Int) ≤ 140737488351232 := by omega
  have c0 : (w.alloc (.cells #[.int .i64 a, .int .i64 b, .slice A n c] 59)).cell? ⟨w.heap.size, 0, none⟩ = some (.int .i64 a) := (Blk.new w _ _).cell 0
  have c1 : (w.alloc (.cells #[.int .i64 a, .int .i64 b, .slice A n c] 59)).cell? ⟨w.heap.size, 1, none⟩ = some (.int .i64 b) := (Blk.new w _ _).cell 1
  have c2 : (w.alloc (.cells #[.int .i64 a, .int .i64 b, .slice A n c] 59)).cell? ⟨w.heap.size, 2, none⟩ = some (.slice A n c) := (Blk.new w _ _).cell 2
  have C0 := Lib.hid c0
  have C1 := Lib.hid c1
  have C2 := Lib.hid c2
  clear c0 c1 c2
  unfold prC
  rcases (by omega : a < 1 ∨ (1 ≤ a ∧ b < a) ∨ (1 ≤ a ∧ a ≤ b ∧ 128 < b) ∨ (1 ≤ a ∧ a ≤ b ∧ b ≤ 128)) with h | ⟨h1, h2⟩ | ⟨h1, h2, h3⟩ | ⟨h1, h2, h3⟩
  · have HF : Hid (fitsGB a b n = false) := fitsGB_no (by omega)
    have s0 : decide ((1 : Int) ≤ a) = false := by simp; omega
    clear hn
    go_enter Try.func83, Try.ntmps83
    go_wp2_with fail
    generalize w.alloc (.cells #[.int .i64 a, .int .i64 b, .slice A n c] 59) = W0 at C0 C1 C2 b0 ⊢
    have c0 := C0.out
    have c1 := C1.out
    have c2 := C2.out
    clear C0 C1 C2
    go_quiet (fail)
    go_wp2_with fail
    go_ret
    exact ⟨by rw [HF.out]; rfl, below_drewN b0 _⟩
  · have HF : Hid (fitsGB a b n = false) := fitsGB_no (by omega)
    have s0 : decide ((1 : Int) ≤ a) = true := by simp; omega
    have s1 : decide (a ≤ b) = false := by simp; omega
    clear hn
    go_enter Try.func83, Try.ntmps83
    go_wp2_with fail
    generalize w.alloc (.cells #[.int .i64 a, .int .i64 b, .slice A n c] 59) = W0 at C0 C1 C2 b0 ⊢
    have c0 := C0.out
    have c1 := C1.out
    have c2 := C2.out
    clear C0 C1 C2
    go_quiet (fail)
    go_wp2_with fail
    go_ret
    exact ⟨by rw [HF.out]; rfl, below_drewN b0 _⟩
  · have HF : Hid (fitsGB a b n = false) := fitsGB_no (by omega)
    have s0 : decide ((1 : Int) ≤ a) = true := by simp; omega
    have s1 : decide (a ≤ b) = true := by simp; omega
    have s2 : decide (b ≤ 128) = false := by simp; omega
    clear hn
    go_enter Try.func83, Try.ntmps83
    go_wp2_with fail
    generalize w.alloc (.cells #[.int .i64 a, .int .i64 b, .slice A n c] 59) = W0 at C0 C1 C2 b0 ⊢
    have c0 := C0.out
    have c1 := C1.out
    have c2 := C2.out
    clear C0 C1 C2
    go_quiet (fail)
    go_wp2_with fail
    go_ret
    exact ⟨by rw [HF.out]; rfl, below_drewN b0 _⟩
  · have HF0 : fitsGB a b n = decide (n = partsS b.toNat a.toNat true) := fitsGB_in (by omega)
    obtain ⟨p, rfl⟩ : ∃ p : Nat, a = (p : Int) := ⟨a.toNat, by omega⟩
    obtain ⟨q, rfl⟩ : ∃ q : Nat, b = (q : Int) := ⟨b.toNat, by omega⟩
    rw [Int.toNat_natCast, Int.toNat_natCast] at HF0
    have HC : Hid (∀ W, Calls Try.prog 135 #[.int .i64 (q : Int), .int .i64 (p : Int), .bool true] W fun e w' => e = .returned (.int .i64 ((partsS q p true : Nat) : Int)) ∧ W = w') := fun W => refParts_any q p true W (by omega) (by omega) (by omega)
    have hle := partsS_le q p true
    generalize partsS q p true = T at HF0 HC hle
    have hTi : (T : Int) ≤ 1001 := by omega
    have s0 : decide ((1 : Int) ≤ (p : Int)) = true := by simp; omega
    have s1 : decide ((q : Int) ≤ 128) = true := by simp; omega
    have s3 : decide (p ≤ q) = true := by simp; omega
    have s4 : decide ((p : Int) ≤ (q : Int)) = true := by simp; omega
    by_cases he : n = T
    · have HF : Hid (fitsGB (p : Int) (q : Int) n = true) := by unfold Hid; rw [HF0, decide_eq_true he]
      subst he
      clear HF0 hn hle
      go_enter Try.func83, Try.ntmps83
      go_wp2_with fail
      generalize w.alloc (.cells #[.int .i64 (p : Int), .int .i64 (q : Int), .slice A n c] 59) = W0 at C0 C1 C2 b0 ⊢
      have c0 := C0.out
      have c1 := C1.out
      have c2 := C2.out
      clear C0 C1 C2
      go_quiet ((go_at_call 135; exact quiet_left' (HC.out _)))
      go_wp2_with fail
      go_ret
      exact ⟨by rw [HF.out]; rfl, below_drewN b0 _⟩
    · have HF : Hid (fitsGB (p : Int) (q : Int) n = false) := by unfold Hid; rw [HF0, decide_eq_false he]
      have hei : ((n : Int) == (T : Int)) = false := by rw [beq_eq_false_iff_ne]; omega
      have hei2 : (n == T) = false := by rw [beq_eq_false_iff_ne]; omega
      clear HF0 hn hle he
      go_enter Try.func83, Try.ntmps83
      go_wp2_with fail
      generalize w.alloc (.cells #[.int .i64 (p : Int), .int .i64 (q : Int), .slice A n c] 59) = W0 at C0 C1 C2 b0 ⊢
      have c0 := C0.out
      have c1 := C1.out
      have c2 := C2.out
      clear C0 C1 C2
      go_quiet ((go_at_call 135; exact quiet_left' (HC.out _)))
      go_wp2_with fail
      go_ret
      exact ⟨by rw [HF.out]; rfl, below_drewN b0 _⟩
end Go.Proofs.Ytinpiodfpnbllaa

/- The two roots that a growth gives: the program's. -/
namespace Go.Proofs.Ytinpiodfpnbllaa
open Go.RowKit
set_option linter.unusedVariables false
set_option linter.unusedSimpArgs false
attribute [local go_sem] run_storeCells_key run_storeCells_new

/-- Where the walk of a growth stands. -/
structure St (w0 w W0 : World) (g : Nat) (W : World) (ts : List (List UInt8)) : Prop where
  a : Below w0.heap.size w W
  b : Below w0.heap.size w0 W
  t : TX w0.heap.size W g ts
  k : KeepT W0 W
  z : W0.heap.size ≤ W.heap.size
section
variable {w0 w W0 W W' : World} {g : Nat} {ts ts' : List (List UInt8)}
theorem St.on (h : St w0 w W0 g W ts) (hb : Below W.heap.size W W') : St w0 w W0 g W' ts :=
  ⟨h.a.trans (hb.mono h.b.size), h.b.trans (hb.mono h.b.size), h.t.below hb, h.k.trans (.of_below hb), Nat.le_trans h.z hb.size⟩
theorem St.step (h : St w0 w W0 g W ts) (ht : TX w0.heap.size W' g ts') (hk : KeepT W W') (hb : Below w0.heap.size W W') : St w0 w W0 g W' ts' :=
  ⟨h.a.trans hb, h.b.trans hb, ht, h.k.trans hk, Nat.le_trans h.z hb.size⟩
theorem St.row (h : St w0 w W0 g W ts) {g' : Nat} {cs : Array Value} (hb : Blk W g' 23 cs) (hg : W0.heap.size ≤ g') (hz : w0.heap.size ≤ W0.heap.size) (cs' : Array Value) : St w0 w W0 g (W.setRow g' cs') ts :=
  ⟨below_setRow h.a (by omega) cs', below_setRow h.b (by omega) cs', h.t.row hb cs', h.k.rowAbove hg cs', by have := h.z; simpa [World.setRow] using this⟩
/-- .. with two keys that were made. -/
def Twins (w0 w W0 : World) (g : Nat) (ts : List (List UInt8)) (a b : Nat) (W : World) : Prop :=
  St w0 w W0 g W ts ∧ Blk W a 23 (cellsB zeroK).toArray ∧ Blk W b 23 (cellsB zeroK).toArray ∧ a ≠ b ∧ W0.heap.size ≤ a ∧ W0.heap.size ≤ b
end
theorem Blk.row_ne {w : World} {g g' : Nat} {t : TypeId} {cs cs' : Array Value} (h : Blk w g t cs) (hne : g ≠ g') : Blk (w.setRow g' cs') g t cs := (setRow_other w g' g cs' hne).trans h
theorem hd_three {P : Program} {md : Region.Mode} {ops : Array Oper} {Q : Exit → Act → World → Prop} {S : World → Prop} {fuel : Nat} {listed : Array Bool} {a : Act} {w : World} (i j k : Nat) (hr : Region.ready md ops listed = [i, j, k]) (h1 : wpOp P ops Q i (fun a' w' => S w' ∧ wpAnyH P md ops Q S fuel (listed.setIfInBounds i true) a' w') a w)
    (h2 : wpOp P ops Q j (fun a' w' => S w' ∧ wpAnyH P md ops Q S fuel (listed.setIfInBounds j true) a' w') a w) (h3 : wpOp P ops Q k (fun a' w' => S w' ∧ wpAnyH P md ops Q S fuel (listed.setIfInBounds k true) a' w') a w) : wpAnyH P md ops Q S (fuel + 1) listed a w := by
  refine wpAnyH_all hr (by simp) fun x hx => ?_
  rcases List.mem_cons.1 hx with rfl | hx
  · exact h1
  · rcases List.mem_cons.1 hx with rfl | hx
    · exact h2
    · rw [List.mem_singleton] at hx; subst hx; exact h3
theorem results_cell2 {fn : Func} {p u : Tmp} {ty ty' : TypeId} (h : fn.results = #[.cell p ty, .cell u ty']) (tmps : Array Value) (P : Program) (w : World) :
    (results fn tmps).run P w =
      ((asAddr (tmps.getD p undef)).run P w).andThen fun a w1 => ((loadVar ty a).run P w1).andThen fun v w2 => ((asAddr (tmps.getD u undef)).run P w2).andThen fun a' w3 => ((loadVar ty' a').run P w3).andThen fun v' w4 => .ok (.tuple #[v, v']) w4 := by
  simp only [results, h]
  simp [Sem.run_bind, Result.andThen]
theorem growS_le (before : List UInt8) : ∀ (n m : Nat) (path : List (List UInt8)), (growS before n m path).2.2.length ≤ 2 * n := by
  intro n
  induction n using Nat.strongRecOn with
  | _ n ih =>
    intro m path
    rw [growS]
    split
    · simp
    · rename_i h
      have s1 := splitS_lt (n := n) (by omega)
      have s2 := splitS_pos n
      dsimp only
      split
      · have := ih (splitS n) s1 m (initK path)
        simp only [List.length_append, List.length_cons, List.length_nil]; omega
      · have := ih (n - splitS n) (by omega) (m - splitS n) (initK path)
        simp only [List.length_append, List.length_cons, List.length_nil]; omega

def GrowEnd (w0 : World) (g : Nat) (ts : List (List UInt8)) (r : List UInt8 × List UInt8 × List (List UInt8)) (w : World) (e : Ending) (w' : World) : Prop :=
  e = .returned (.tuple #[.agg (cellsB r.1).toArray, .agg (cellsB r.2.1).toArray]) ∧ TX w0.heap.size w' g (ts ++ r.2.2) ∧ KeepT w w' ∧ Below w0.heap.size w w'

set_option maxHeartbeats 4000000 in
set_option maxRecDepth 100000 in
theorem grow_end (w0 : World) (g n : Nat) (before : List UInt8) (hl : before.length = 16) (path : List (List UInt8)) (A : Option Addr) (c : Nat) (ts : List (List UInt8)) (w : World) (hn : n ≤ 1000) (hp : path.length ≤ 1000) (h : KR w0 A c path) (hw : Below w0.heap.size w0 w) (ht : TX w0.heap.size w g ts) :
    Calls Try.prog 82 #[.pointer (some ⟨g, 0, none⟩), .agg (cellsB before).toArray, .int .i64 (n : Int), .int .i64 (n : Int), .slice A path.length c] w (GrowEnd w0 g ts (growS before n n path) w) := by
  rw [growS_end]
  unfold GrowEnd
  dsimp only
  have HZ := Lib.hid zero16
  have HK := Lib.hid hl
  have hws : w0.heap.size ≤ w.heap.size := hw.size
  have hni : (n : Int) ≤ 1000 := by omega
  have b0 := alloc3_bel w (.cells (cellsB before).toArray 23) (.cells (cellsB zeroK).toArray 23) (.cells (cellsB zeroK).toArray 23)
  have B0 := Lib.hid (blk_a0 w (cellsB before).toArray 23 (.cells (cellsB zeroK).toArray 23) (.cells (cellsB zeroK).toArray 23))
  have B1 := Lib.hid (blk_a1 w (.cells (cellsB before).toArray 23) (cellsB zeroK).toArray 23 (.cells (cellsB zeroK).toArray 23))
  have B2 := Lib.hid (blk_a2 w (.cells (cellsB before).toArray 23) (.cells (cellsB zeroK).toArray 23) (cellsB zeroK).toArray 23)
  have HTX := Lib.hid (ht.below b0)
  cases path with
  | nil =>
    rw [show ([] : List (List UInt8)).headD before = before from rfl]
    clear h hw ht hl hp hn
    go_enter Try.func82, Try.ntmps82
    go_wp2_with fail
    rw [HZ.out]
    have BX := B0.out
    have BR1 := B1.out
    have BR2 := B2.out
    have TXW := HTX.out
    have KW := KeepT.of_below b0
    have BWW := b0.mono hws
    clear B0 B1 B2 HTX b0
    generalize ((w.alloc (.cells (cellsB before).toArray 23)).alloc (.cells (cellsB zeroK).toArray 23)).alloc (.cells (cellsB zeroK).toArray 23) = W at BX BR1 BR2 TXW KW BWW ⊢
    refine wp_region_noPanic ?_
    refine wp_region_held_drew (S := fun w' => w'.rangeAt w.heap.size 0 (cellsB before)) (by kernel_rfl) BX.drew.range (fun hS => ?_)
    refine hd_load 0 w.heap.size 0 (cellsB before) _ _ rfl rfl rfl (by kernel_rfl) (by kernel_rfl) (by kernel_rfl) (fun _ _ _ h => h) rfl (fun w hw => hw) under_key rfl (key_info HK.out) hS ?_
    refine hd_load 1 w.heap.size 0 (cellsB before) _ _ rfl rfl rfl (by kernel_rfl) (by kernel_rfl) (by kernel_rfl) (fun _ _ _ h => h) rfl (fun w hw => hw) under_key rfl (key_info HK.out) hS ?_
    simp only [List.getElem_toArray, List.getElem_cons_succ, List.getElem_cons_zero, Act.put, List.setIfInBounds_toArray, List.set_cons_zero, List.set_cons_succ]
    have E1 := BR1.drew
    have hS2 := range_setRow hS (g' := w.heap.size + 1) (by omega) (cellsB before).toArray
    refine hd_store 2 (w.heap.size + 1) (cellsB before).toArray _ _ _ rfl rfl rfl (by kernel_rfl) rfl rfl E1 (cellsB_size _ HK.out) (by rw [List.size_toArray, List.size_toArray, cellsB_length, cellsB_length, HK.out]; rfl) (all_oneCell_toArray (cells_one before)) hS2 ?_
    have E2 := BR2.drew.row_ne (g' := w.heap.size + 1) (cs' := (cellsB before).toArray) (by omega)
    have hS3 := range_setRow hS2 (g' := w.heap.size + 1 + 1) (by omega) (cellsB before).toArray
    refine hd_store 3 (w.heap.size + 1 + 1) (cellsB before).toArray _ _ _ rfl rfl rfl (by kernel_rfl) rfl rfl E2 (cellsB_size _ HK.out) (by rw [List.size_toArray, List.size_toArray, cellsB_length, cellsB_length, HK.out]; rfl) (all_oneCell_toArray (cells_one before)) hS3 ?_
    refine wpAnyH_done (by kernel_rfl) (NoPanic.normal ?_) _
    simp only [List.getElem_toArray, List.getElem_cons_succ, List.getElem_cons_zero, Act.put, List.setIfInBounds_toArray, List.set_cons_zero, List.set_cons_succ]
    have F1 := Lib.hid ((E1.setRow (cellsB before).toArray).row_ne (g' := w.heap.size + 1 + 1) (cs' := (cellsB before).toArray) (by omega))
    have F2 := Lib.hid (E2.setRow (cellsB before).toArray)
    have FT := Lib.hid (((TXW.below (Below.refl _ _).drew).row E1 (cellsB before).toArray).row E2 (cellsB before).toArray)
    have FK := Lib.hid (((KW.trans (.of_below (Below.refl _ _).drew)).rowAbove (g := w.heap.size + 1) (by omega) (cellsB before).toArray).rowAbove (g := w.heap.size + 1 + 1) (by omega) (cellsB before).toArray)
    have FB := Lib.hid (below_setRow (below_setRow BWW.drew (g := w.heap.size + 1) (by omega) (cellsB before).toArray) (g := w.heap.size + 1 + 1) (by omega) (cellsB before).toArray)
    clear hS hS2 hS3 E1 E2 BX BR1 BR2 TXW KW BWW
    go_wp2_with fail
    refine bodyPost_ret (v := .tuple #[.agg (cellsB before).toArray, .agg (cellsB before).toArray]) ?_ rfl ⟨rfl, by rw [List.append_nil]; exact FT.out, FK.out, FB.out⟩
    rw [results_cell2 Try.results82]
    simp [asAddr, Result.andThen, run_loadVar_row _ (w.heap.size + 1) _ _ _ (0, 0) _ F1.out under_key rfl (cellsB_size _ HK.out), run_loadVar_row _ (w.heap.size + 1 + 1) _ _ _ (0, 0) _ F2.out under_key rfl (cellsB_size _ HK.out)]
  | cons x path =>
    rw [show (x :: path).headD before = x from rfl]
    obtain ⟨b, off, rfl, hb, hr⟩ := h.at_ (i := 0) (by simp)
    have hxl : x.length = 16 := h.2 x List.mem_cons_self
    have HX := Lib.hid hxl
    have HR := Lib.hid (show (((w.alloc (.cells (cellsB before).toArray 23)).alloc (.cells (cellsB zeroK).toArray 23)).alloc (.cells (cellsB zeroK).toArray 23)).rangeAt b off (cellsB x) from by have := range_below hr (hw.trans (b0.mono hws)); simpa using this)
    obtain ⟨m, hm⟩ : ∃ m, (x :: path).length = m + 1 := ⟨path.length, rfl⟩
    rw [hm]
    have hmi : (m : Int) ≤ 1000 := by rw [List.length_cons] at hm hp; omega
    have hm0 : (0 : Int) < (m : Int) + 1 := by omega
    have hxc : (cellsB x).length = 16 := by rw [cellsB_length, hxl]
    have hxa := all16 x
    have hrx : (rowAt (((w.alloc (.cells (cellsB before).toArray 23)).alloc (.cells (cellsB zeroK).toArray 23)).alloc (.cells (cellsB zeroK).toArray 23)) w.heap.size).size = 16 := by rw [B0.out.row, List.size_toArray, cellsB_length, hl]
    have hfx := B0.out.free
    clear h hw ht hl hp hn hb hr hxl hm
    go_enter Try.func82, Try.ntmps82
    go_wp2_with (rw [HZ.out]; refine wpList_load_mid rfl 23 (.tmp 25) rfl b off rfl (cellsB x) _ HR.out under_key rfl (key_info HX.out) ?_)
    have BX := B0.out.setRow (cellsB x).toArray
    have BR1 := B1.out.row_ne (g' := w.heap.size) (cs' := (cellsB x).toArray) (by omega)
    have BR2 := B2.out.row_ne (g' := w.heap.size) (cs' := (cellsB x).toArray) (by omega)
    have TXW := HTX.out.row B0.out (cellsB x).toArray
    have KW := (KeepT.of_below b0).row (cellsB x).toArray
    have BWW := below_setRow (b0.mono hws) (g := w.heap.size) hws (cellsB x).toArray
    clear B0 B1 B2 HTX b0 HR hrx hfx
    generalize (((w.alloc (.cells (cellsB before).toArray 23)).alloc (.cells (cellsB zeroK).toArray 23)).alloc (.cells (cellsB zeroK).toArray 23)).setRow w.heap.size (cellsB x).toArray = W at BX BR1 BR2 TXW KW BWW ⊢
    refine wp_region_noPanic ?_
    refine wp_region_held_drew (S := fun w' => w'.rangeAt w.heap.size 0 (cellsB x)) (by kernel_rfl) BX.drew.range (fun hS => ?_)
    refine hd_load 0 w.heap.size 0 (cellsB x) _ _ rfl rfl rfl (by kernel_rfl) (by kernel_rfl) (by kernel_rfl) (fun _ _ _ h => h) rfl (fun w hw => hw) under_key rfl (key_info HX.out) hS ?_
    refine hd_load 1 w.heap.size 0 (cellsB x) _ _ rfl rfl rfl (by kernel_rfl) (by kernel_rfl) (by kernel_rfl) (fun _ _ _ h => h) rfl (fun w hw => hw) under_key rfl (key_info HX.out) hS ?_
    simp only [List.getElem_toArray, List.getElem_cons_succ, List.getElem_cons_zero, Act.put, List.setIfInBounds_toArray, List.set_cons_zero, List.set_cons_succ]
    have E1 := BR1.drew
    have hS2 := range_setRow hS (g' := w.heap.size + 1) (by omega) (cellsB x).toArray
    refine hd_store 2 (w.heap.size + 1) (cellsB x).toArray _ _ _ rfl rfl rfl (by kernel_rfl) rfl rfl E1 (cellsB_size _ HX.out) (by rw [List.size_toArray, List.size_toArray, cellsB_length, cellsB_length, HX.out]; rfl) (all_oneCell_toArray (cells_one x)) hS2 ?_
    have E2 := BR2.drew.row_ne (g' := w.heap.size + 1) (cs' := (cellsB x).toArray) (by omega)
    have hS3 := range_setRow hS2 (g' := w.heap.size + 1 + 1) (by omega) (cellsB x).toArray
    refine hd_store 3 (w.heap.size + 1 + 1) (cellsB x).toArray _ _ _ rfl rfl rfl (by kernel_rfl) rfl rfl E2 (cellsB_size _ HX.out) (by rw [List.size_toArray, List.size_toArray, cellsB_length, cellsB_length, HX.out]; rfl) (all_oneCell_toArray (cells_one x)) hS3 ?_
    refine wpAnyH_done (by kernel_rfl) (NoPanic.normal ?_) _
    simp only [List.getElem_toArray, List.getElem_cons_succ, List.getElem_cons_zero, Act.put, List.setIfInBounds_toArray, List.set_cons_zero, List.set_cons_succ]
    have F1 := Lib.hid ((E1.setRow (cellsB x).toArray).row_ne (g' := w.heap.size + 1 + 1) (cs' := (cellsB x).toArray) (by omega))
    have F2 := Lib.hid (E2.setRow (cellsB x).toArray)
    have FT := Lib.hid (((TXW.below (Below.refl _ _).drew).row E1 (cellsB x).toArray).row E2 (cellsB x).toArray)
    have FK := Lib.hid (((KW.trans (.of_below (Below.refl _ _).drew)).rowAbove (g := w.heap.size + 1) (by omega) (cellsB x).toArray).rowAbove (g := w.heap.size + 1 + 1) (by omega) (cellsB x).toArray)
    have FB := Lib.hid (below_setRow (below_setRow BWW.drew (g := w.heap.size + 1) (by omega) (cellsB x).toArray) (g := w.heap.size + 1 + 1) (by omega) (cellsB x).toArray)
    clear hS hS2 hS3 E1 E2 BX BR1 BR2 TXW KW BWW
    go_wp2_with fail
    refine bodyPost_ret (v := .tuple #[.agg (cellsB x).toArray, .agg (cellsB x).toArray]) ?_ rfl ⟨rfl, by rw [List.append_nil]; exact FT.out, FK.out, FB.out⟩
    rw [results_cell2 Try.results82]
    simp [asAddr, Result.andThen, run_loadVar_row _ (w.heap.size + 1) _ _ _ (0, 0) _ F1.out under_key rfl (cellsB_size _ HX.out), run_loadVar_row _ (w.heap.size + 1 + 1) _ _ _ (0, 0) _ F2.out under_key rfl (cellsB_size _ HX.out)]
end Go.Proofs.Ytinpiodfpnbllaa
