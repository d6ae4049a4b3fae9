/-
  Lemmas and contracts, joined.
-/
import Derived.Test.YtinpiodfpnbllaaGreatDoorAuC3
import Derived.Test.YtinpiodfpnbllaaGreatDoorAuE1
set_option linter.unusedSimpArgs false
set_option linter.unusedVariables false
set_option linter.unnecessarySimpa false
/- Words counted one by one, in plain words. -/
namespace Go.Proofs.YtinpiodfpnbllaaGreatDoor
set_option linter.unusedVariables false

/-- How many numbers below n have a property. -/
def cnt (P : Nat → Bool) (n : Nat) : Nat := sumN (fun h => if P h = true then 1 else 0) n
theorem cnt_congr {P Q : Nat → Bool} {n : Nat} (h : ∀ i, i < n → P i = Q i) : cnt P n = cnt Q n := sumN_congr fun i hi => by simp only [h i hi]
theorem cnt_double (P : Nat → Bool) (n : Nat) : cnt P (2 ^ (n + 1)) = cnt P (2 ^ n) + cnt (fun h => P (2 ^ n + h)) (2 ^ n) := by
  unfold cnt
  rw [show 2 ^ (n + 1) = 2 ^ n + 2 ^ n from by rw [Nat.pow_succ]; omega, sumN_split]
/-- What the places of a word add up to. -/
def stat (w : Nat → Bool → Nat) (n h : Nat) : Nat := sumN (fun i => w i (h.testBit i)) n
theorem stat_low (w : Nat → Bool → Nat) {n h : Nat} (hh : h < 2 ^ n) : stat w (n + 1) h = stat w n h + w n false := by
  unfold stat
  rw [sumN_succ, Nat.testBit_lt_two_pow hh]
theorem stat_high (w : Nat → Bool → Nat) {n h : Nat} (hh : h < 2 ^ n) : stat w (n + 1) (2 ^ n + h) = stat w n h + w n true := by
  unfold stat
  rw [sumN_succ, Nat.testBit_two_pow_add_eq, Nat.testBit_lt_two_pow hh]
  congr 1
  exact sumN_congr fun i hi => by rw [Nat.testBit_two_pow_add_gt hi]

/-- In how many places a word agrees with a copy. -/
def agreeW (y : Nat → Bool) (i : Nat) (b : Bool) : Nat := if b = y i then 1 else 0
/-- The sum of the choices of at least t of m things. -/
def fromN (m t : Nat) : Nat := sumN (fun i => if t ≤ i then bin m i else 0) (m + 1)
theorem fromN_zero (m : Nat) : fromN m 0 = 2 ^ m := by
  rw [← sumN_bin]
  exact sumN_congr fun i _ => by simp
theorem fromN_succ (m t : Nat) : fromN (m + 1) (t + 1) = fromN m (t + 1) + fromN m t := by
  unfold fromN
  rw [sumN_first]
  have e : sumN (fun i => if t + 1 ≤ i + 1 then bin (m + 1) (i + 1) else 0) (m + 1) = sumN (fun i => (if t ≤ i then bin m i else 0) + (if t + 1 ≤ i + 1 then bin m (i + 1) else 0)) (m + 1) := sumN_congr fun i _ => by
    by_cases h : t ≤ i
    · rw [if_pos (by omega), if_pos h, if_pos (by omega), bin_succ]
    · rw [if_neg (by omega), if_neg h, if_neg (by omega)]
  rw [e, sumN_add]
  have h2 := sumN_first (fun i => if t + 1 ≤ i then bin m i else 0) (m + 1)
  rw [sumN_succ, bin_above (a := m) (b := m + 1) (by omega)] at h2
  simp only [ite_self] at h2
  simp only [show ¬ t + 1 ≤ 0 from by omega, if_false] at h2 ⊢
  omega
/-- Of all words of m places those that agree with a copy in at least t places. -/
theorem agree_count (y : Nat → Bool) : ∀ (m t : Nat), cnt (fun h => decide (t ≤ stat (agreeW y) m h)) (2 ^ m) = fromN m t
  | 0, t => by
    cases t with
    | zero => rfl
    | succ t => simp [cnt, sumN, stat, fromN]
  | m + 1, t => by
    rw [cnt_double]
    have h1 : cnt (fun h => decide (t ≤ stat (agreeW y) (m + 1) h)) (2 ^ m) = cnt (fun h => decide (t ≤ stat (agreeW y) m h + agreeW y m false)) (2 ^ m) := cnt_congr fun i hi => by rw [stat_low _ hi]
    have h2 : cnt (fun h => decide (t ≤ stat (agreeW y) (m + 1) (2 ^ m + h))) (2 ^ m) = cnt (fun h => decide (t ≤ stat (agreeW y) m h + agreeW y m true)) (2 ^ m) := cnt_congr fun i hi => by rw [stat_high _ hi]
    rw [h1, h2]
    cases t with
    | zero =>
      have a := agree_count y m 0
      simp only [Nat.zero_le, decide_true] at a ⊢
      rw [a, fromN_zero, fromN_zero, Nat.pow_succ]; omega
    | succ t =>
      have a := agree_count y m t
      have b := agree_count y m (t + 1)
      rw [fromN_succ]
      cases hy : y m with
      | false =>
        have e1 : agreeW y m false = 1 := by unfold agreeW; rw [hy]; rfl
        have e2 : agreeW y m true = 0 := by unfold agreeW; rw [hy]; rfl
        rw [e1, e2]
        simp only [Nat.add_zero, Nat.add_le_add_iff_right]
        rw [a, b]; omega
      | true =>
        have e1 : agreeW y m false = 0 := by unfold agreeW; rw [hy]; rfl
        have e2 : agreeW y m true = 1 := by unfold agreeW; rw [hy]; rfl
        rw [e1, e2]
        simp only [Nat.add_zero, Nat.add_le_add_iff_right]
        rw [a, b]

/-- How many places of a word are 1, of those that are marked, or of all. -/
def markW (mk : Nat → Bool) (i : Nat) (b : Bool) : Nat := if b = true ∧ mk i = true then 1 else 0
def oneW (_ : Nat) (b : Bool) : Nat := if b = true then 1 else 0
def markN (mk : Nat → Bool) (n : Nat) : Nat := sumN (fun i => if mk i = true then 1 else 0) n
end Go.Proofs.YtinpiodfpnbllaaGreatDoor

/- The law AuditShare: the walk. -/
namespace Go.Proofs.YtinpiodfpnbllaaGreatDoor
open Go.RowKit
set_option linter.unusedVariables false
set_option linter.unusedSimpArgs false

def yW (y : List UInt8) (i : Nat) : Bool := decide (bt y i = 1)
def shP (y : List UInt8) (m K h : Nat) : Bool := decide (K ≤ stat (agreeW (yW y)) m h)
theorem bits_and_one {n : Nat} (h : n < 1024) : bits BinOp.and IntKind.i64 (n : Int) 1 = ((n % 2 : Nat) : Int) := by
  have h1 : (BitVec.ofInt 64 (n : Int)).toNat = n := by
    rw [BitVec.ofInt_natCast, BitVec.toNat_ofNat]; exact Nat.mod_eq_of_lt (by omega)
  have h2 : (BitVec.ofInt 64 (1 : Int)).toNat = 1 := by decide
  show IntKind.i64.wrap ((BitVec.ofInt 64 (n : Int) &&& BitVec.ofInt 64 (1 : Int)).toNat : Int) = _
  rw [BitVec.toNat_and, h1, h2, Nat.and_one_is_mod, IntKind.wrap_i64]
  omega
theorem cnt_le (P : Nat → Bool) : ∀ n, cnt P n ≤ n
  | 0 => Nat.le_refl _
  | n + 1 => by
    have := cnt_le P n
    unfold cnt at this ⊢
    rw [sumN_succ]
    split <;> omega
theorem cnt_yes {P : Nat → Bool} {n : Nat} (h : P n = true) : cnt P (n + 1) = cnt P n + 1 := by unfold cnt; rw [sumN_succ, if_pos h]
theorem cnt_no {P : Nat → Bool} {n : Nat} (h : ¬ P n = true) : cnt P (n + 1) = cnt P n := by unfold cnt; rw [sumN_succ, if_neg h]; omega
theorem stat_le (y : Nat → Bool) (h : Nat) : ∀ n, stat (agreeW y) n h ≤ n
  | 0 => Nat.le_refl _
  | n + 1 => by
    have := stat_le y h n
    unfold stat at this ⊢
    rw [sumN_succ]
    unfold agreeW at this ⊢
    split <;> omega
theorem stat_step (y : Nat → Bool) (h n : Nat) : stat (agreeW y) (n + 1) h = stat (agreeW y) n h + (if h.testBit n = y n then 1 else 0) := by unfold stat agreeW; rw [sumN_succ]
theorem bit_val (h i : Nat) : h / 2 ^ i % 2 = (if h.testBit i = true then 1 else 0) := by
  rw [Nat.testBit_eq_decide_div_mod_eq]
  have := Nat.mod_lt (h / 2 ^ i) (show 0 < 2 by omega)
  by_cases hx : h / 2 ^ i % 2 = 1
  · rw [hx]; rfl
  · rw [show h / 2 ^ i % 2 = 0 from by omega]; rfl

set_option maxHeartbeats 4000000 in
set_option maxRecDepth 100000 in
theorem share_early (y : List UInt8) (Y : Option Addr) (c : Nat) (need : Int) (w : World) {m : Nat} (hm : y.length = m) (hy : BR w Y c y) (HA : Hid (∀ W, Below w.heap.size w W → Calls Tryz.prog 25 #[] W fun e w' => e = .returned (.bool true) ∧ Below W.heap.size W w')) (hbad : 10 < m ∨ (m ≤ 10 ∧ wordB y m = false) ∨ (m ≤ 10 ∧ wordB y m = true ∧ (need < 0 ∨ 64 < need))) :
    Calls Tryz.prog 7 #[.slice Y m c, .int .i64 need] w fun e w' => e = .returned (.bool true) ∧ Below w.heap.size w w' := by
  have hmi : (m : Int) ≤ 140737488351232 := by have := hy.len; omega
  have HIW : Hid (∀ W, Below w.heap.size w W → Calls Tryz.prog 35 #[.slice Y m c, .int .i64 (m : Int)] W fun e w' => e = .returned (.bool (wordB y m)) ∧ W = w') := fun W hW => refIsWord_any Y c y m W hm (hy.below hW) (by have := hy.len; omega)
  rcases hbad with h1 | ⟨h1, h2⟩ | ⟨h1, h2, h3⟩
  · have h1i : 10 < (m : Int) := by omega
    clear hm hy h1
    go_enter Tryz.func7, Tryz.ntmps7
    go_wp2_with (first
      | (go_at_call 25; (with_reducible refine (HA.out _ (Below.refl _ _)).mono ?_); rintro e w1 ⟨rfl, hb⟩; have D1 := Lib.hid hb; clear hb)
      | (go_at_call 35; (with_reducible refine (HIW.out _ D1.out).mono ?_); rintro e w2 ⟨rfl, rfl⟩))
    all_goals first | omega | (go_ret; exact ⟨rfl, D1.out⟩)
  · have h1i : (m : Int) ≤ 10 := by omega
    rw [h2] at HIW
    clear hm hy h1 h2
    go_enter Tryz.func7, Tryz.ntmps7
    go_wp2_with (first
      | (go_at_call 25; (with_reducible refine (HA.out _ (Below.refl _ _)).mono ?_); rintro e w1 ⟨rfl, hb⟩; have D1 := Lib.hid hb; clear hb)
      | (go_at_call 35; (with_reducible refine (HIW.out _ D1.out).mono ?_); rintro e w2 ⟨rfl, rfl⟩))
    all_goals first | omega | (go_ret; exact ⟨rfl, D1.out⟩)
  · have h1i : (m : Int) ≤ 10 := by omega
    rw [h2] at HIW
    clear hm hy h1 h2
    go_enter Tryz.func7, Tryz.ntmps7
    go_wp2_with (first
      | (go_at_call 25; (with_reducible refine (HA.out _ (Below.refl _ _)).mono ?_); rintro e w1 ⟨rfl, hb⟩; have D1 := Lib.hid hb; clear hb)
      | (go_at_call 35; (with_reducible refine (HIW.out _ D1.out).mono ?_); rintro e w2 ⟨rfl, rfl⟩))
    all_goals first | omega | (go_ret; exact ⟨rfl, D1.out⟩)

set_option maxHeartbeats 8000000 in
set_option maxRecDepth 100000 in
theorem share_good (y : List UInt8) (Y : Option Addr) (c : Nat) (need : Int) (w : World) {m : Nat} (hm : y.length = m) (hy : BR w Y c y) (HA : Hid (∀ W, Below w.heap.size w W → Calls Tryz.prog 25 #[] W fun e w' => e = .returned (.bool true) ∧ Below W.heap.size W w')) (K : Nat) (h10 : m ≤ 10) (hw : wordB y m = true) (hK : K ≤ 64) :
    Calls Tryz.prog 7 #[.slice Y m c, .int .i64 (K : Int)] w fun e w' => e = .returned (.bool true) ∧ Below w.heap.size w w' := by
  have hmi : (m : Int) ≤ 140737488351232 := by have := hy.len; omega
  have HIW : Hid (∀ W, Below w.heap.size w W → Calls Tryz.prog 35 #[.slice Y m c, .int .i64 (m : Int)] W fun e w' => e = .returned (.bool (wordB y m)) ∧ W = w') := fun W hW => refIsWord_any Y c y m W hm (hy.below hW) (by have := hy.len; omega)
  rw [hw] at HIW
  have h10i : (m : Int) ≤ 10 := by omega
  have hKi : (K : Int) ≤ 64 := by omega
  have hp10 : 2 ^ m ≤ 1024 := Nat.le_trans (Nat.pow_le_pow_right (by omega) h10) (by decide)
  have hp0 := Nat.two_pow_pos m
  have HSY : Hid (∀ i, i < m → bt y i ≤ 1) := fun i hi => symB_iff.1 (by unfold wordB at hw; simp at hw; exact hw.2) i (by omega)
  have HYB := Lib.hid hy
  have HM := Lib.hid hm
  have HW := Lib.hid hw
  have H10 := Lib.hid h10
  have HP10 := Lib.hid hp10
  have HP0 := Lib.hid hp0
  obtain ⟨N, hN⟩ : ∃ N, N = 2 ^ m := ⟨_, rfl⟩
  have HN := Lib.hid hN
  have hN1 : N ≤ 1024 := by omega
  have hN0 : 1 ≤ N := by omega
  have hNi : (N : Int) ≤ 1024 := by omega
  have hsh : wrap64 ((2 : Int) ^ m) = (N : Int) := by
    have e : ((2 : Int) ^ m) = (N : Int) := by rw [hN]; simp
    rw [e]
    simp only [wrap64]
    omega
  have hT : cnt (shP y m K) N = fromN m K := by rw [hN]; exact agree_count (yW y) m K
  have hTM : tailT m K (m + 1) = fromN m K := rfl
  have hTl : fromN m K ≤ N := by rw [hN, ← hTM]; exact tailT_le m K (m + 1) (Nat.le_refl _)
  obtain ⟨T, hTT⟩ : ∃ T, T = fromN m K := ⟨_, rfl⟩
  have HT : Hid (cnt (shP y m K) N = T) := by unfold Hid; rw [hTT]; exact hT
  have hTi : (T : Int) ≤ 1024 := by omega
  have HO1 : Hid (∀ W, Calls Tryz.prog 37 #[.int .u64 (T : Int)] W fun e w' => (∃ A c, e = .returned (.slice A (digs T).length c) ∧ NR w' A c (digs T)) ∧ Below W.heap.size W w') := fun W => refOfD_any T W (by omega)
  have HO2 : Hid (∀ W, Calls Tryz.prog 37 #[.int .u64 (N : Int)] W fun e w' => (∃ A c, e = .returned (.slice A (digs N).length c) ∧ NR w' A c (digs N)) ∧ Below W.heap.size W w') := fun W => refOfD_any N W (by omega)
  have HLO : Hid (∀ W A x B y, NR W A x (digs T) → NR W B y (digs N) → Calls Tryz.prog 36 #[.slice A (digs T).length x, .slice B (digs N).length y] W fun e w' => ∃ X x Z z, e = .returned (.agg #[.slice X (lowS T N).1.length x, .slice Z (lowS T N).2.length z]) ∧ NR w' X x (lowS T N).1 ∧ NR w' Z z (lowS T N).2 ∧ Below W.heap.size W w') := fun W A x B y h1 h2 => by
    refine (lowestD_any (sm_small (by omega)) (sm_small (by omega)) (by omega) rfl rfl h1 h2).mono fun e w' h => ?_
    obtain ⟨v, rfl, X, x, Z, z, rfl, h1, h2, _, hb⟩ := h
    exact ⟨X, x, Z, z, rfl, h1.nr_, h2.nr_, hb⟩
  have HSF : Hid (∀ W X x Z z X' x' Z' z', NR W X x (lowS T N).1 → NR W Z z (lowS T N).2 → NR W X' x' (lowS T N).1 → NR W Z' z' (lowS T N).2 → Calls Tryz.prog 22 #[.agg #[.slice X (lowS T N).1.length x, .slice Z (lowS T N).2.length z], .agg #[.slice X' (lowS T N).1.length x', .slice Z' (lowS T N).2.length z']] W fun e w' => e = .returned (.bool true) ∧ Below W.heap.size W w') := fun W X x Z z X' x' Z' z' a1 a2 a3 a4 => by
    have := SameFraction_any X x _ Z z _ X' x' _ Z' z' _ W rfl rfl rfl rfl a1 a2 a3 a4
    rwa [sameB_self, sameB_self] at this
  have HMC : Hid (∀ W, Calls Tryz.prog 20 #[.int .i64 (m : Int), .int .i64 (K : Int)] W fun e w' => ∃ X x Z z, e = .returned (.tuple #[.agg #[.slice X (lowS T N).1.length x, .slice Z (lowS T N).2.length z], .int .i64 0]) ∧ NR w' X x (lowS T N).1 ∧ NR w' Z z (lowS T N).2 ∧ Below W.heap.size W w') := fun W => by
    have := MatchChance_any (m : Int) (K : Int) W
    have e : mcS (m : Int) (K : Int) = (lowS T N, 0) := by unfold mcS; rw [if_neg (by omega), Int.toNat_natCast, Int.toNat_natCast, hTM, hTT, hN]
    rw [e] at this
    exact this.mono fun e w' h => frac2_open_ h
  generalize hp1 : (lowS T N).1 = p1 at HLO HSF HMC
  generalize hp2 : (lowS T N).2 = p2 at HLO HSF HMC
  generalize hd1 : digs T = d1 at HO1 HLO
  generalize hd2 : digs N = d2 at HO2 HLO
  generalize hl1 : p1.length = Np at HLO HSF HMC
  generalize hl2 : p2.length = Nq at HLO HSF HMC
  generalize hl3 : d1.length = N1 at HO1 HLO
  generalize hl4 : d2.length = N2 at HO2 HLO
  clear hp1 hp2 hd1 hd2 hl1 hl2 hl3 hl4 hT hTM hTl hTT
  have hshu : IntKind.u64.wrap ((2 : Int) ^ m) = (N : Int) := by
    have e : ((2 : Int) ^ m) = (N : Int) := by rw [hN]; simp
    rw [e, IntKind.wrap_u64]
    omega
  clear hm hy hw h10 hp10 hp0 hN
  go_enter Tryz.func7, Tryz.ntmps7
  go_wp2_with (first
    | (go_at_call 25; (with_reducible refine (HA.out _ (Below.refl _ _)).mono ?_); rintro e w1 ⟨rfl, hb⟩; have D1 := Lib.hid hb; clear hb)
    | (go_at_call 35; (with_reducible refine (HIW.out _ D1.out).mono ?_); rintro e w2 ⟨rfl, rfl⟩))
  all_goals first | omega | skip
  go_loopw [7, 8] (fun va vh wr => ∃ h : Nat, h ≤ N ∧ vh = .int .i64 (h : Int) ∧ va = .int .u64 (cnt (shP y m K) h : Int) ∧ Below w.heap.size w wr) (fun _ vh _ => N - (intOf vh).toNat)
  case atStart => exact ⟨0, by omega, rfl, rfl, D1.out⟩
  case round =>
    obtain ⟨h, hh, rfl, rfl, hbel⟩ := hrel
    by_cases hlt : h < N
    · have hii : (h : Int) < N := by omega
      have hh0 : (0 : Int) ≤ h := by omega
      have hcl := cnt_le (shP y m K) h
      go_wp2_with fail
      go_loopw [9, 10] (fun vn vi wr => ∃ i : Nat, i ≤ m ∧ vi = .int .i64 (i : Int) ∧ vn = .int .i64 (stat (agreeW (yW y)) i h : Int) ∧ Below w.heap.size w wr) (fun _ vi _ => m - (intOf vi).toNat)
      case atStart => exact ⟨0, by omega, rfl, rfl, hbel⟩
      case round =>
        obtain ⟨i, hi, rfl, rfl, hbel2⟩ := hrel
        have hsl := stat_le (yW y) h i
        by_cases hlt2 : i < m
        · have hi2 : (i : Int) < m := by omega
          have hi0 : (0 : Int) ≤ i := by omega
          obtain ⟨yb, yo, rfl, hyb, hc⟩ := (HYB.out.below hbel2).at_ (i := i) (by have := HM.out; omega)
          have HC := Lib.hid hc
          have hhN : h < 1024 := by omega
          obtain ⟨q, hqd⟩ : ∃ q, h / 2 ^ i = q := ⟨_, rfl⟩
          obtain ⟨b, hbd⟩ : ∃ b, q % 2 = b := ⟨_, rfl⟩
          have hb2 : b < 2 := by rw [← hbd]; exact Nat.mod_lt _ (by omega)
          have hq1 : q < 1024 := by rw [← hqd]; exact Nat.lt_of_le_of_lt (Nat.div_le_self _ _) (by omega)
          have hshr : (h : Int) / (2 : Int) ^ i = (q : Int) := by rw [← hqd, Int.natCast_ediv]; simp
          have hand : bits BinOp.and IntKind.i64 (q : Int) 1 = (b : Int) := by rw [← hbd]; exact bits_and_one hq1
          have hcv : IntKind.u8.wrap (b : Int) = (b : Int) := by rw [IntKind.wrap_u8]; omega
          have HQD := Lib.hid hqd
          have HBD := Lib.hid hbd
          clear hqd hbd
          clear hc
          go_wp2_with fail

          have HS : Hid (∀ W, Below wr.heap.size wr W → W.cell? ⟨yb, yo + i, none⟩ = some (.int .u8 (bt y i : Int))) := fun W hW => (hW.cell (p := ⟨yb, yo + i, none⟩) hyb).trans HC.out
          have E0 : Below wr.heap.size wr wr := Below.refl _ _
          refine wp_region_noPanic ?_
          refine wp_region_held_drew (S := fun W => W.cell? ⟨yb, yo + i, none⟩ = some (.int .u8 (bt y i : Int))) (by kernel_rfl) (HS.out _ E0.drew) (fun hS => ?_)
          have E0 := E0.drew
          refine hd_take 0 (_) rfl rfl (by kernel_rfl) (by kernel_rfl) (by kernel_rfl) (fun _ _ _ h => h) (fun w hw => by go_simp <;> rfl) hS ?_
          simp only [List.getElem_toArray, List.getElem_cons_succ, List.getElem_cons_zero, Act.put, List.setIfInBounds_toArray, List.set_cons_zero, List.set_cons_succ]
          refine hd_take 1 (_) rfl rfl (by kernel_rfl) (by kernel_rfl) (by kernel_rfl) (fun _ _ _ h => h) (fun w hw => by go_simp <;> rfl) hS ?_
          simp only [List.getElem_toArray, List.getElem_cons_succ, List.getElem_cons_zero, Act.put, List.setIfInBounds_toArray, List.set_cons_zero, List.set_cons_succ]
          refine hd_take 2 (.int .i64 (q : Int)) rfl rfl (by kernel_rfl) (by kernel_rfl) (by kernel_rfl) (fun _ _ _ h => h) (fun w hw => by have hx := hshr; simp [go_sem, hx]) hS ?_
          simp only [List.getElem_toArray, List.getElem_cons_succ, List.getElem_cons_zero, Act.put, List.setIfInBounds_toArray, List.set_cons_zero, List.set_cons_succ]
          refine hd_take 3 (.int .i64 (b : Int)) rfl rfl (by kernel_rfl) (by kernel_rfl) (by kernel_rfl) (fun _ _ _ h => h) (fun w hw => by have hx := hand; simp [go_sem, hx]) hS ?_
          simp only [List.getElem_toArray, List.getElem_cons_succ, List.getElem_cons_zero, Act.put, List.setIfInBounds_toArray, List.set_cons_zero, List.set_cons_succ]
          refine hd_take 4 (.int .u8 (b : Int)) rfl rfl (by kernel_rfl) (by kernel_rfl) (by kernel_rfl) (fun _ _ _ h => h) (fun w hw => by have hx := hcv; simp [go_sem, hx]) hS ?_
          simp only [List.getElem_toArray, List.getElem_cons_succ, List.getElem_cons_zero, Act.put, List.setIfInBounds_toArray, List.set_cons_zero, List.set_cons_succ]
          refine hd_take 5 (_) rfl rfl (by kernel_rfl) (by kernel_rfl) (by kernel_rfl) (fun _ _ _ h => h) (fun w hw => by go_simp <;> rfl) hS ?_
          simp only [List.getElem_toArray, List.getElem_cons_succ, List.getElem_cons_zero, Act.put, List.setIfInBounds_toArray, List.set_cons_zero, List.set_cons_succ]
          refine hd_take 6 (_) rfl rfl (by kernel_rfl) (by kernel_rfl) (by kernel_rfl) (fun _ _ _ h => h) (fun w hw => by go_simp <;> rfl) hS ?_
          simp only [List.getElem_toArray, List.getElem_cons_succ, List.getElem_cons_zero, Act.put, List.setIfInBounds_toArray, List.set_cons_zero, List.set_cons_succ]
          refine hd_take 7 (.pointer (some ⟨yb, yo + i, none⟩)) rfl rfl (by kernel_rfl) (by kernel_rfl) (by kernel_rfl) (fun _ _ _ h => h) (fun w hw => by simp [go_sem, hi2, hi0]) hS ?_
          simp only [List.getElem_toArray, List.getElem_cons_succ, List.getElem_cons_zero, Act.put, List.setIfInBounds_toArray, List.set_cons_zero, List.set_cons_succ]
          refine hd_take 8 (.int .u8 (bt y i : Int)) rfl rfl (by kernel_rfl) (by kernel_rfl) (by kernel_rfl) (fun _ _ _ h => h) (fun w hw => by have hx := hw; simp [go_sem, hx]) hS ?_
          simp only [List.getElem_toArray, List.getElem_cons_succ, List.getElem_cons_zero, Act.put, List.setIfInBounds_toArray, List.set_cons_zero, List.set_cons_succ]
          by_cases hq : h.testBit i = yW y i
          · have hqq : (b : Int) = (bt y i : Int) := by
              have e1 := bit_val h i
              rw [HQD.out, HBD.out] at e1
              have e2 := HSY.out i hlt2
              unfold yW at hq
              rw [e1]
              by_cases hb1 : bt y i = 1
              · rw [hq, decide_eq_true hb1, if_pos rfl, hb1]
              · rw [hq, decide_eq_false hb1, if_neg (by simp)]; omega
            refine hd_take 9 (.bool true) rfl rfl (by kernel_rfl) (by kernel_rfl) (by kernel_rfl) (fun _ _ _ h => h) (fun w hw => by have hx := hqq; simp [go_sem, hx]) hS ?_
            simp only [List.getElem_toArray, List.getElem_cons_succ, List.getElem_cons_zero, Act.put, List.setIfInBounds_toArray, List.set_cons_zero, List.set_cons_succ]
            refine wpAnyH_done (by kernel_rfl) (NoPanic.normal ?_) _
            have hst : stat (agreeW (yW y)) (i + 1) h = stat (agreeW (yW y)) i h + 1 := by rw [stat_step, if_pos hq]
            clear hq hqq hshr hand hcv
            have hsn : (stat (agreeW (yW y)) i h : Int) ≤ 10 := by have := H10.out; omega
            have HST := Lib.hid hst
            have DB := Lib.hid hbel2.drew
            clear hst hbel2
            go_wp2_with fail
            go_roundw
            case rel => exact ⟨i + 1, by omega, by go_num, by rw [HST.out]; go_num, DB.out⟩
            case measure => simp [intOf]; omega
          · have hqq : ¬ (b : Int) = (bt y i : Int) := by
              have e1 := bit_val h i
              rw [HQD.out, HBD.out] at e1
              have e2 := HSY.out i hlt2
              unfold yW at hq
              rw [e1]
              intro e
              apply hq
              by_cases hb1 : bt y i = 1
              · rw [decide_eq_true hb1]
                by_cases hb2 : h.testBit i = true
                · exact hb2
                · rw [if_neg hb2] at e; omega
              · rw [decide_eq_false hb1]
                by_cases hb2 : h.testBit i = true
                · rw [if_pos hb2] at e; omega
                · simpa using hb2
            refine hd_take 9 (.bool false) rfl rfl (by kernel_rfl) (by kernel_rfl) (by kernel_rfl) (fun _ _ _ h => h) (fun w hw => by have hx := hqq; simp [go_sem, hx]) hS ?_
            simp only [List.getElem_toArray, List.getElem_cons_succ, List.getElem_cons_zero, Act.put, List.setIfInBounds_toArray, List.set_cons_zero, List.set_cons_succ]
            refine wpAnyH_done (by kernel_rfl) (NoPanic.normal ?_) _
            have hst : stat (agreeW (yW y)) (i + 1) h = stat (agreeW (yW y)) i h := by rw [stat_step, if_neg hq]; omega
            clear hq hqq hshr hand hcv
            have HST := Lib.hid hst
            have DB := Lib.hid hbel2.drew
            clear hst hbel2
            go_wp2_with fail
            go_roundw
            case rel => exact ⟨i + 1, by omega, by go_num, by rw [HST.out], DB.out⟩
            case measure => simp [intOf]; omega
        · obtain rfl : i = m := by omega
          have hx : ¬ ((i : Int) < i) := by omega
          by_cases hk : K ≤ stat (agreeW (yW y)) i h
          · have hki : (K : Int) ≤ (stat (agreeW (yW y)) i h : Int) := by omega
            have HC := Lib.hid (cnt_yes (P := shP y i K) (n := h) (decide_eq_true hk))
            clear hk
            go_wp2_with fail
            go_roundw
            case rel => exact ⟨h + 1, by omega, by go_num, by rw [HC.out]; go_num, hbel2⟩
            case measure => simp [intOf]; omega
          · have hki : ¬ (K : Int) ≤ (stat (agreeW (yW y)) i h : Int) := by omega
            have HC := Lib.hid (cnt_no (P := shP y i K) (n := h) (fun e => hk (of_decide_eq_true e)))
            clear hk
            go_wp2_with fail
            go_roundw
            case rel => exact ⟨h + 1, by omega, by go_num, by rw [HC.out], hbel2⟩
            case measure => simp [intOf]; omega
    · obtain rfl : h = N := by omega
      have hx : ¬ ((h : Int) < h) := by omega
      rw [HT.out]
      go_wp2_with (first
        | (go_at_call 20; (with_reducible refine (HMC.out _).mono ?_); rintro e x6 ⟨cA, cc, cB, cd, rfl, hn1, hn2, hb⟩; have F6 := Lib.hid (bel_on hbel hb); have U6 := Lib.hid hn1; have V6 := Lib.hid hn2; clear hb hn1 hn2)
        | (refine wpList_store_row rfl 38 (.tmp 11) (.tmp 65) rfl x6.heap.size #[.slice cA Np cc, .slice cB Nq cd] rfl rfl 38 #[.slice none 0 0, .slice none 0 0] (Blk.new x6 _ _) (by kernel_rfl) rfl (by simp [Value.oneCell']) ?_; obtain ⟨x7, hV⟩ : ∃ W, W = (x6.alloc (.cells #[.slice none 0 0, .slice none 0 0] 38)).setRow x6.heap.size #[.slice cA Np cc, .slice cB Nq cd] := ⟨_, rfl⟩; rw [← hV]; obtain ⟨gb, nb⟩ := keybox2_ _ _ _ _ hV; have F7 := Lib.hid (bel_on F6.out gb); have U7 := Lib.hid (U6.out.below gb); have V7 := Lib.hid (V6.out.below gb); have G7 := Lib.hid nb; clear hV gb nb))

      have HS : Hid (∀ W, Below x7.heap.size x7 W → W.rangeAt x6.heap.size 0 [.slice cA Np cc, .slice cB Nq cd]) := fun W hW => (G7.out.below' hW).range
      have E0 : Below x7.heap.size x7 x7 := Below.refl _ _
      refine wp_region_noPanic ?_
      refine wp_region_held_drew (S := fun W => W.rangeAt x6.heap.size 0 [.slice cA Np cc, .slice cB Nq cd]) (by kernel_rfl) (HS.out _ E0.drew) (fun hS => ?_)
      have E0 := E0.drew
      refine hd_take 0 (_) rfl rfl (by kernel_rfl) (by kernel_rfl) (by kernel_rfl) (fun _ _ _ h => h) (fun w hw => by go_simp <;> rfl) hS ?_
      simp only [List.getElem_toArray, List.getElem_cons_succ, List.getElem_cons_zero, Act.put, List.setIfInBounds_toArray, List.set_cons_zero, List.set_cons_succ]
      refine hd_take 1 (_) rfl rfl (by kernel_rfl) (by kernel_rfl) (by kernel_rfl) (fun _ _ _ h => h) (fun w hw => by go_simp <;> rfl) hS ?_
      simp only [List.getElem_toArray, List.getElem_cons_succ, List.getElem_cons_zero, Act.put, List.setIfInBounds_toArray, List.set_cons_zero, List.set_cons_succ]
      refine hg_take 2 (_) rfl (by rfl) (by kernel_rfl) (by kernel_rfl) (by kernel_rfl) (fun _ _ _ h => h) (fun w hw => by go_simp <;> rfl) hS ?_
      simp only [List.getElem_toArray, List.getElem_cons_succ, List.getElem_cons_zero, Act.put, List.setIfInBounds_toArray, List.set_cons_zero, List.set_cons_succ]
      refine hg_take 3 (_) rfl (by rfl) (by kernel_rfl) (by kernel_rfl) (by kernel_rfl) (fun _ _ _ h => h) (fun w hw => by go_simp <;> rfl) hS ?_
      simp only [List.getElem_toArray, List.getElem_cons_succ, List.getElem_cons_zero, Act.put, List.setIfInBounds_toArray, List.set_cons_zero, List.set_cons_succ]
      refine hd_take 4 (_) rfl rfl (by kernel_rfl) (by kernel_rfl) (by kernel_rfl) (fun _ _ _ h => h) (fun w hw => by go_simp <;> rfl) hS ?_
      simp only [List.getElem_toArray, List.getElem_cons_succ, List.getElem_cons_zero, Act.put, List.setIfInBounds_toArray, List.set_cons_zero, List.set_cons_succ]
      refine hd_take 5 (_) rfl rfl (by kernel_rfl) (by kernel_rfl) (by kernel_rfl) (fun _ _ _ h => h) (fun w hw => by go_simp <;> rfl) hS ?_
      simp only [List.getElem_toArray, List.getElem_cons_succ, List.getElem_cons_zero, Act.put, List.setIfInBounds_toArray, List.set_cons_zero, List.set_cons_succ]
      refine hg_load 6 (x6.heap.size) (0) ([.slice cA Np cc, .slice cB Nq cd]) _ _ rfl rfl (by rfl) (by kernel_rfl) (by kernel_rfl) (by kernel_rfl) (fun _ _ _ h => h) rfl (fun w hw => hw) Tryz.underlying38 rfl (by kernel_rfl) hS ?_
      simp only [List.getElem_toArray, List.getElem_cons_succ, List.getElem_cons_zero, Act.put, List.setIfInBounds_toArray, List.set_cons_zero, List.set_cons_succ]
      refine hg_take 7 (_) rfl (by rfl) (by kernel_rfl) (by kernel_rfl) (by kernel_rfl) (fun _ _ _ h => h) (fun w hw => by go_simp <;> rfl) hS ?_
      simp only [List.getElem_toArray, List.getElem_cons_succ, List.getElem_cons_zero, Act.put, List.setIfInBounds_toArray, List.set_cons_zero, List.set_cons_succ]
      refine hg_take 9 (_) rfl (by rfl) (by kernel_rfl) (by kernel_rfl) (by kernel_rfl) (fun _ _ _ h => h) (fun w hw => by go_simp <;> rfl) hS ?_
      simp only [List.getElem_toArray, List.getElem_cons_succ, List.getElem_cons_zero, Act.put, List.setIfInBounds_toArray, List.set_cons_zero, List.set_cons_succ]
      refine hg_take 10 (.int .u64 (h : Int)) rfl (by rfl) (by kernel_rfl) (by kernel_rfl) (by kernel_rfl) (fun _ _ _ h => h) (fun w hw => by have hx := hshu; simp [go_sem, hx]) hS ?_
      simp only [List.getElem_toArray, List.getElem_cons_succ, List.getElem_cons_zero, Act.put, List.setIfInBounds_toArray, List.set_cons_zero, List.set_cons_succ]
      refine hg_calls 8 37 #[.int .u64 (T : Int)] rfl (by rfl) (by kernel_rfl) (by go_simp <;> rfl) ?_
      refine (HO1.out _).mono ?_
      rintro e y1 ⟨⟨oA, oc, rfl, ho⟩, hb⟩
      have E1_ := bel_on E0 hb
      have hS1_ := HS.out _ E1_
      clear hb
      refine ⟨_, rfl, hS1_, ?_⟩
      simp only [List.getElem_toArray, List.getElem_cons_succ, List.getElem_cons_zero, Act.put, List.setIfInBounds_toArray, List.set_cons_zero, List.set_cons_succ]
      refine hg_calls 11 37 #[.int .u64 (h : Int)] rfl (by rfl) (by kernel_rfl) (by go_simp <;> rfl) ?_
      refine (HO2.out _).mono ?_
      rintro e y2 ⟨⟨qA, qc, rfl, hq⟩, hb⟩
      have E2_ := bel_on E1_ hb
      have hS2_ := HS.out _ E2_
      have ho := ho.below hb
      clear hb
      refine ⟨_, rfl, hS2_, ?_⟩
      simp only [List.getElem_toArray, List.getElem_cons_succ, List.getElem_cons_zero, Act.put, List.setIfInBounds_toArray, List.set_cons_zero, List.set_cons_succ]
      refine hg_calls 12 36 #[.slice oA N1 oc, .slice qA N2 qc] rfl (by rfl) (by kernel_rfl) (by go_simp <;> rfl) ?_
      refine (HLO.out _ _ _ _ _ ho hq).mono ?_
      rintro e y3 ⟨zA, zc, zB, zd, rfl, hz1, hz2, hb⟩
      have E3_ := bel_on E2_ hb
      have hS3_ := HS.out _ E3_
      clear hb
      refine ⟨_, rfl, hS3_, ?_⟩
      simp only [List.getElem_toArray, List.getElem_cons_succ, List.getElem_cons_zero, Act.put, List.setIfInBounds_toArray, List.set_cons_zero, List.set_cons_succ]
      refine hg_calls 13 22 #[.agg #[.slice cA Np cc, .slice cB Nq cd], .agg #[.slice zA Np zc, .slice zB Nq zd]] rfl (by rfl) (by kernel_rfl) (by go_simp <;> rfl) ?_
      refine (HSF.out _ _ _ _ _ _ _ _ _ (U7.out.below E3_) (V7.out.below E3_) hz1 hz2).mono ?_
      rintro e y4 ⟨rfl, hb⟩
      have E4_ := bel_on E3_ hb
      have hS4_ := HS.out _ E4_
      clear hb
      refine ⟨_, rfl, hS4_, ?_⟩
      simp only [List.getElem_toArray, List.getElem_cons_succ, List.getElem_cons_zero, Act.put, List.setIfInBounds_toArray, List.set_cons_zero, List.set_cons_succ]
      refine hd_take 14 (_) rfl rfl (by kernel_rfl) (by kernel_rfl) (by kernel_rfl) (fun _ _ _ h => h) (fun w hw => by go_simp <;> rfl) hS4_ ?_
      simp only [List.getElem_toArray, List.getElem_cons_succ, List.getElem_cons_zero, Act.put, List.setIfInBounds_toArray, List.set_cons_zero, List.set_cons_succ]
      refine hd_take 15 (_) rfl rfl (by kernel_rfl) (by kernel_rfl) (by kernel_rfl) (fun _ _ _ h => h) (fun w hw => by go_simp <;> rfl) hS4_ ?_
      simp only [List.getElem_toArray, List.getElem_cons_succ, List.getElem_cons_zero, Act.put, List.setIfInBounds_toArray, List.set_cons_zero, List.set_cons_succ]
      refine wpAnyH_done (by kernel_rfl) (NoPanic.normal ?_) _
      go_wp2_with fail
      go_ret
      exact ⟨rfl, bel_on F7.out E4_⟩
theorem auditShare_walk (Y : Option Addr) (c : Nat) (y : List UInt8) (need : Int) (w : World) (hy : BR w Y c y) (_ : -9223372036854775808 ≤ need) (_ : need ≤ 9223372036854775807) (hT : TestsIn w) :
    Calls Tryz.prog 7 #[.slice Y y.length c, .int .i64 need] w fun e w' => e = .returned (.bool true) ∧ Below w.heap.size w w' := by
  have HA : Hid (∀ W, Below w.heap.size w W → Calls Tryz.prog 25 #[] W fun e w' => e = .returned (.bool true) ∧ Below W.heap.size W w') := fun W hW => alive_any W (range_below hT hW)
  by_cases h1 : 10 < y.length
  · exact share_early y Y c need w rfl hy HA (.inl h1)
  · cases h2 : wordB y y.length with
    | false => exact share_early y Y c need w rfl hy HA (.inr (.inl ⟨by omega, h2⟩))
    | true =>
      by_cases h3 : need < 0 ∨ 64 < need
      · exact share_early y Y c need w rfl hy HA (.inr (.inr ⟨by omega, h2, h3⟩))
      · obtain ⟨K, rfl⟩ : ∃ K : Nat, need = (K : Int) := ⟨need.toNat, by omega⟩
        exact share_good y Y c 0 w rfl hy HA K (by omega) h2 (by omega)
end Go.Proofs.YtinpiodfpnbllaaGreatDoor
