/-
  Lemmas and contracts, joined.
-/
import Derived.Test.YtchnaimpmegbkaaGreatDoorTfTn1
set_option linter.unusedSimpArgs false
set_option linter.unusedVariables false
set_option linter.unnecessarySimpa false
/- The estimate of a digit of a quotient: plain laws. No program in sight. -/
namespace Go.Proofs.YtchnaimpmegbkaaGreatDoor
open Go.RowKit
set_option linter.unusedVariables false

/-- The numbers of one estimate: V the divisor, W the part, both cut behind their first digits. -/
structure Est (W V P vl wl top next high p2 : Nat) : Prop where
  hV : V = vl + P * (top * 4294967296 + next)
  hW : W = wl + P * (high * 4294967296 + p2)
  vl_lt : vl < P
  wl_lt : wl < P
  top_ge : 2147483648 ≤ top
  top_lt : top < 4294967296
  next_lt : next < 4294967296
  p2_lt : p2 < 4294967296
  less : W < 4294967296 * V
namespace Est
variable {W V P vl wl top next high p2 : Nat}
theorem V_pos (h : Est W V P vl wl top next high p2) : 0 < V := by
  have := h.hV; have := h.vl_lt; have := h.top_ge
  have : 0 < P * (top * 4294967296 + next) := Nat.mul_pos (by omega) (by omega)
  omega
theorem high_le (h : Est W V P vl wl top next high p2) : high ≤ top * 4294967296 + next := by
  have h1 : P * (high * 4294967296 + p2) < P * (4294967296 * (top * 4294967296 + next + 1)) := by
    have e1 := h.hV; have e2 := h.hW; have e3 := h.vl_lt; have e4 := h.less
    have e5 : P * (4294967296 * (top * 4294967296 + next + 1)) = 4294967296 * (P * (top * 4294967296 + next) + P) := by
      rw [Nat.mul_left_comm, Nat.mul_add P]; simp
    omega
  have h2 := Nat.lt_of_mul_lt_mul_left h1
  omega
theorem high_lt (h : Est W V P vl wl top next high p2) : high < 18446744073709551616 := by
  have := h.high_le; have := h.top_lt; have := h.next_lt; omega
theorem quot_le (h : Est W V P vl wl top next high p2) {q : Nat} (hq : q * V ≤ W) : q * (top * 4294967296 + next) ≤ high * 4294967296 + p2 := by
  have h1 : P * (q * (top * 4294967296 + next)) < P * (high * 4294967296 + p2 + 1) := by
    have e1 := h.hV; have e2 := h.hW; have e4 := h.wl_lt
    have e5 : q * V = q * vl + P * (q * (top * 4294967296 + next)) := by rw [e1, Nat.mul_add, Nat.mul_left_comm]
    rw [Nat.mul_add P]
    omega
  have h2 := Nat.lt_of_mul_lt_mul_left h1
  omega
theorem start (h : Est W V P vl wl top next high p2) : W / V ≤ high / top := by
  have h1 := h.quot_le (q := W / V) (Nat.div_mul_le_self _ _)
  have ht := h.top_ge
  have hp := h.p2_lt
  rw [Nat.le_div_iff_mul_le (by omega)]
  generalize W / V = q at *
  rw [Nat.mul_add, ← Nat.mul_assoc] at h1
  omega
theorem down (h : Est W V P vl wl top next high p2) {x r : Nat} (he : x * top + r = high) (hx : W / V ≤ x) (ht : 4294967296 ≤ x ∨ r * 4294967296 + p2 < x * next) : 1 ≤ x ∧ W / V ≤ x - 1 := by
  have hl : W / V < 4294967296 := by rw [Nat.div_lt_iff_lt_mul h.V_pos]; exact h.less
  suffices hne : W / V ≠ x by
    generalize W / V = q at *
    omega
  intro e
  rcases ht with ht | ht
  · omega
  · have h1 := h.quot_le (q := x) (by rw [← e]; exact Nat.div_mul_le_self _ _)
    rw [Nat.mul_add, ← Nat.mul_assoc, ← he] at h1
    omega
theorem out1 (h : Est W V P vl wl top next high p2) {x r : Nat} (he : x * top + r = high) (hx : x < 4294967296) (ht : x * next ≤ r * 4294967296 + p2) : x ≤ W / V + 1 := by
  have h1 : x * (top * 4294967296 + next) ≤ high * 4294967296 + p2 := by rw [Nat.mul_add, ← Nat.mul_assoc, ← he]; omega
  have h2 : x * V < W + V := by
    have e1 := h.hV; have e2 := h.hW; have e3 := h.vl_lt
    have e5 : x * V = x * vl + P * (x * (top * 4294967296 + next)) := by rw [e1, Nat.mul_add, Nat.mul_left_comm]
    have e6 := Nat.mul_le_mul_left P h1
    have e7 : x * vl ≤ x * P := Nat.mul_le_mul_left _ (by omega)
    have e8 : P * (x + 1) ≤ P * (top * 4294967296 + next) := Nat.mul_le_mul_left _ (by have := h.top_ge; omega)
    rw [Nat.mul_add, Nat.mul_comm P x] at e8
    omega
  rcases Nat.eq_zero_or_pos x with h0 | h0
  · rw [h0]; exact Nat.zero_le _
  · have h3 : x - 1 ≤ W / V := by
      rw [Nat.le_div_iff_mul_le h.V_pos, Nat.sub_mul]
      omega
    generalize W / V = q at *
    omega
theorem out2 (h : Est W V P vl wl top next high p2) {x r : Nat} (he : x * top + r = high) (hr : 4294967296 ≤ r) : x < 4294967296 ∧ x * next ≤ r * 4294967296 + p2 := by
  have h1 := h.high_le
  have h2 := h.next_lt
  have h3 : x * top < 4294967296 * top := by omega
  have h4 := Nat.lt_of_mul_lt_mul_right h3
  have h5 : x * next ≤ 4294967295 * 4294967295 := Nat.mul_le_mul (by omega) (by omega)
  exact ⟨h4, by omega⟩
end Est

/-- The estimate of a part. -/
theorem est_of {p v : List Nat} {n : Nat} (hv : Dig v) (hp : Dig p) (hn : 2 ≤ n) (hvn : v.length = n) (hpn : p.length = n + 1) (ht : 2147483648 ≤ dg v (n - 1)) (hl : val p < 4294967296 * val v) :
    Est (val p) (val v) (4294967296 ^ (n - 2)) (val (v.take (n - 2))) (val (p.take (n - 2))) (dg v (n - 1)) (dg v (n - 2)) (dg p n * 4294967296 + dg p (n - 1)) (dg p (n - 2)) := by
  obtain ⟨m, rfl⟩ : ∃ m, n = m + 2 := ⟨n - 2, by omega⟩
  have a1 : m + 2 - 2 = m := by omega
  have a2 : m + 2 - 1 = m + 1 := by omega
  rw [a1, a2]
  rw [a2] at ht
  have e1 : val v = val (v.take (m + 2)) := by rw [List.take_of_length_le (by omega)]
  have e2 : val p = val (p.take (m + 3)) := by rw [List.take_of_length_le (by omega)]
  refine ⟨?_, ?_, val_take_lt hv m, val_take_lt hp m, ht, dg_lt hv _, dg_lt hv _, dg_lt hp _, hl⟩
  · rw [e1, val_take_succ, val_take_succ, Nat.pow_succ, Nat.mul_assoc, Nat.add_assoc, ← Nat.mul_add]
    congr 2
    omega
  · rw [e2, val_take_succ, val_take_succ, val_take_succ, Nat.pow_succ, Nat.pow_succ]
    try rw [Nat.pow_succ]
    generalize 4294967296 ^ m = P
    generalize dg p (m + 2) = d2
    generalize dg p (m + 1) = d1
    generalize dg p m = d0
    have g1 : P * ((d2 * 4294967296 + d1) * 4294967296 + d0) = P * d0 + P * 4294967296 * d1 + P * 4294967296 * 4294967296 * d2 := by
      rw [Nat.mul_assoc P, Nat.mul_assoc P, Nat.mul_assoc P, ← Nat.mul_add, ← Nat.mul_add]
      congr 1
      omega
    omega

/-! ### The outer loop -/
/-- k digits of the quotient are still to come. -/
def PartI (Aval V : Nat) (u q : List Nat) (k : Nat) : Prop :=
  Dig u ∧ Dig q ∧ val u + V * (4294967296 ^ k * val (q.drop k)) = Aval ∧ val (u.drop k) < V
theorem PartI.step {Aval V : Nat} {u q u' : List Nat} {j n x : Nat} (h : PartI Aval V u q (j + 1)) (hu' : Dig u') (hx : x < 4294967296) (hj : j < q.length) (hlen : u'.length = u.length) (hun : j + n + 1 ≤ u.length)
    (hVn : V < 4294967296 ^ n) (hs : ∀ p, p < j ∨ j + (n + 1) ≤ p → dg u' p = dg u p) (hval : val (seg u' j (n + 1)) + x * V = val (seg u j (n + 1))) (hlt : val (seg u' j (n + 1)) < V) : PartI Aval V u' (q.set j x) j := by
  obtain ⟨hu, hq, hA, hd⟩ := h
  have z1 : ∀ i, j + (n + 1) ≤ i → dg u i = 0 := fun i hi => dg_zero_of_drop_lt (Nat.lt_trans hd hVn) i (by omega)
  have z2 : ∀ i, j + (n + 1) ≤ i → dg u' i = 0 := fun i hi => by rw [hs i (.inr hi)]; exact z1 i hi
  have e1 := val_drop_seg z1
  have e2 := val_drop_seg z2
  refine ⟨hu', hq.set _ hx, ?_, by rw [e2]; exact hlt⟩
  have f1 : val (u'.take j) = val (u.take j) := take_ext fun p hp => hs p (.inl hp)
  rw [val_eq_take_drop u j, e1, ← hval, ← e2] at hA
  rw [val_eq_take_drop u' j, f1, val_drop_succ (q.set j x) j, dg_set_same hj]
  have f2 : val ((q.set j x).drop (j + 1)) = val (q.drop (j + 1)) := val_ext fun i => by rw [dg_drop, dg_drop, dg_set_other (by omega)]
  rw [f2]
  rw [Nat.pow_succ] at hA
  generalize 4294967296 ^ j = Q at *
  generalize val (u'.drop j) = s1 at *
  generalize val (u.take j) = s2 at *
  generalize val (q.drop (j + 1)) = s3 at *
  have g1 : V * (Q * (x + 4294967296 * s3)) = Q * (x * V) + V * (Q * 4294967296 * s3) := by
    rw [Nat.mul_add, Nat.mul_add, Nat.mul_left_comm V Q x, Nat.mul_comm V x, Nat.mul_assoc Q]
  rw [g1]
  rw [Nat.mul_add] at hA
  omega
theorem PartI.fin {Aval V : Nat} {u q : List Nat} (h : PartI Aval V u q 0) : val q = Aval / V ∧ val u = Aval % V := by
  obtain ⟨hu, hq, hA, hd⟩ := h
  simp at hA hd
  constructor
  · rw [← hA, Nat.add_mul_div_left _ _ (by omega), Nat.div_eq_of_lt hd]; omega
  · rw [← hA, Nat.add_mul_mod_self_left, Nat.mod_eq_of_lt hd]
/-- The estimate's numbers at the part at j. -/
theorem PartI.est {Aval V : Nat} {u q v : List Nat} {j n : Nat} (h : PartI Aval V u q (j + 1)) (hv : Dig v) (hV : val v = V) (hn : 2 ≤ n) (hvn : v.length = n) (hun : j + n + 1 ≤ u.length) (ht : 2147483648 ≤ dg v (n - 1)) :
    Est (val (seg u j (n + 1))) V (4294967296 ^ (n - 2)) (val (v.take (n - 2))) (val ((seg u j (n + 1)).take (n - 2))) (dg v (n - 1)) (dg v (n - 2)) (dg u (j + n) * 4294967296 + dg u (j + (n - 1))) (dg u (j + (n - 2))) := by
  obtain ⟨hu, hq, hA, hd⟩ := h
  have hVn : V < 4294967296 ^ n := by rw [← hV, ← hvn]; exact val_lt hv
  have z1 : ∀ i, j + (n + 1) ≤ i → dg u i = 0 := fun i hi => dg_zero_of_drop_lt (Nat.lt_trans hd hVn) i (by omega)
  have e1 := val_drop_seg z1
  have e2 := val_drop_succ u j
  have h1 := dg_lt hu j
  have hlt : val (seg u j (n + 1)) < 4294967296 * val v := by rw [← e1, e2, hV]; omega
  have hs : ∀ i, i < n + 1 → dg (seg u j (n + 1)) i = dg u (j + i) := fun i hi => by unfold seg; rw [dg_take hi, dg_drop]
  have := est_of (p := seg u j (n + 1)) (v := v) (n := n) hv ((hu.drop j).take _) hn hvn (by unfold seg; rw [List.length_take, List.length_drop]; omega) ht hlt
  rw [hs n (by omega), hs (n - 1) (by omega), hs (n - 2) (by omega), hV] at this
  exact this
/-- One digit: what 'subtract', and 'giveBack' where it was too much, leave. -/
theorem digit_exact {W V M s b x : Nat} (hV : 0 < V) (hWM : W < M) (hb : b ≤ 1) (hs : s < M) (h : s + x * V = W + M * b) (h1 : W / V ≤ x) (hb0 : b = 0) : x = W / V ∧ s < V ∧ s + x * V = W := by
  subst hb0
  have h2 : x ≤ W / V := by rw [Nat.le_div_iff_mul_le hV]; omega
  have e : x = W / V := by omega
  subst e
  refine ⟨rfl, ?_, by omega⟩
  have e1 := Nat.div_add_mod W V
  have e2 := Nat.mod_lt W hV
  rw [Nat.mul_comm] at e1
  generalize W / V * V = y at *
  omega
theorem digit_back {W V M s b x s' c : Nat} (hV : 0 < V) (hVM : V < M) (hWM : W < M) (hs : s < M) (h : s + x * V = W + M * b) (h2 : x ≤ W / V + 1) (hb1 : b = 1) (hc : c ≤ 1) (hs' : s' < M) (h' : s' + M * c = s + V) :
    1 ≤ x ∧ s' < V ∧ s' + (x - 1) * V = W := by
  subst hb1
  have h3 : W / V < x := by
    rw [Nat.div_lt_iff_lt_mul hV]
    omega
  obtain rfl : x = W / V + 1 := by omega
  have e : (W / V + 1) * V = W / V * V + V := by rw [Nat.add_mul]; omega
  rw [e] at h
  clear e h3 h2
  have e2 := Nat.div_add_mod W V
  have e3 := Nat.mod_lt W hV
  rw [Nat.mul_comm] at e2
  refine ⟨Nat.le_add_left 1 _, ?_, ?_⟩
  · rcases Nat.lt_or_ge c 1 with h4 | h4
    · obtain rfl : c = 0 := by omega
      omega
    · obtain rfl : c = 1 := by omega
      omega
  · rw [Nat.add_sub_cancel]
    rcases Nat.lt_or_ge c 1 with h4 | h4
    · obtain rfl : c = 0 := by omega
      omega
    · obtain rfl : c = 1 := by omega
      omega
/-- The first digits of the shifted number are below the shifted divisor. -/
theorem first_less {u v : List Nat} {k n : Nat} (hu : Dig u) (hn : 1 ≤ n) (hvn : v.length = n) (hlen : u.length = k + n) (ht : 2147483648 ≤ dg v (n - 1)) (hd : dg u (u.length - 1) < 2147483648) : val (u.drop k) < val v := by
  obtain ⟨m, rfl⟩ : ∃ m, n = m + 1 := ⟨n - 1, by omega⟩
  have e1 : val v = val (v.take (m + 1)) := by rw [List.take_of_length_le (by omega)]
  have e2 : val (u.drop k) = val ((u.drop k).take (m + 1)) := by rw [List.take_of_length_le (by rw [List.length_drop]; omega)]
  have e3 : u.length - 1 = k + m := by omega
  rw [e3] at hd
  rw [show m + 1 - 1 = m from by omega] at ht
  rw [e1, e2, val_take_succ, val_take_succ, dg_drop]
  have h1 := val_take_lt (hu.drop k) m
  have h2 : 4294967296 ^ m * (dg u (k + m) + 1) ≤ 4294967296 ^ m * dg v m := Nat.mul_le_mul_left _ (by omega)
  rw [Nat.mul_add] at h2
  omega
/-- Dividing both by a power of two. -/
theorem shift_div (a b p : Nat) (hp : 0 < p) : a * p / (b * p) = a / b ∧ a * p % (b * p) / p = a % b := by
  refine ⟨Nat.mul_div_mul_right _ _ hp, ?_⟩
  rw [Nat.mul_mod_mul_right, Nat.mul_div_cancel _ hp]
end Go.Proofs.YtchnaimpmegbkaaGreatDoor

/- What parted is made of: shifted, unshifted, Clone, Div32, subtract, giveBack. -/
namespace Go.Proofs.YtchnaimpmegbkaaGreatDoor
open Go.RowKit
set_option linter.unusedVariables false

set_option maxHeartbeats 1000000 in
theorem shifted_any (A : Option Addr) (ca : Nat) (a : List Nat) (s : Nat) (w : World) {na : Nat} (hna : a.length = na) (ha : NR w A ca a) (hs : s ≤ 31) :
    Calls Tryz.prog 114 #[.slice A na ca, .int .u64 s] w fun e w' => ∃ g l, e = .returned (.slice (some ⟨g, 0, none⟩) (na + 1) (na + 1)) ∧ BlkN w' g l ∧ l.length = na + 1 ∧ ShI a l s na ∧ w.heap.size ≤ g ∧ Below w.heap.size w w' := by
  have la : na ≤ 35184372088832 := by have := ha.len; omega
  have Ha := Lib.hid hna
  have Ra := Lib.hid ha
  have hs2 : (s : Int) ≤ 31 := by omega
  have HS0 := Lib.hid hs
  clear hna ha hs
  go_enter Tryz.func114, Tryz.ntmps114
  go_wp2_with (at_make; refine wpList_make_nat _ rfl _ _ rfl (na + 1) rfl rfl (by omega) (by omega) (by omega) ?_; intro w1 hk1 hb1 hs1)
  have HK1 := Lib.hid hk1
  clear hk1
  go_loopw [14] (fun vk wr => ∃ (k : Nat) (l : List Nat), k ≤ na ∧ vk = .int .i64 k ∧ Hid (ShI a l s k) ∧ Hid (l.length = na + 1) ∧ Hid (BlkN wr w.heap.size l) ∧ Below w.heap.size w wr) (fun vk _ => na - (intOf vk).toNat)
  case atStart => exact ⟨0, List.replicate (na + 1) 0, by omega, rfl, by have := ShI.start a s; rw [Ha.out] at this; exact this, by simp [Hid], HK1.out, hb1⟩
  case round =>
    obtain ⟨k, l, hk, rfl, HI, HL, HB, hbel⟩ := hrel
    by_cases hkn : k < na
    · obtain ⟨b0, off, rfl, hb0, hc0⟩ := Ra.out.at_ (i := k) (by have := Ha.out; omega)
      have hca : wr.cell? ⟨b0, off + k, none⟩ = some (.int .u32 (dg a k : Nat)) := (hbel.cell (p := ⟨b0, _, none⟩) hb0).trans hc0
      clear hc0
      have hda : (dg a k : Int) ≤ 4294967295 := by have := dg_lt Ra.out.dig k; omega
      have hdl : (dg l k : Int) ≤ 4294967295 := by have := dg_lt HI.out.1 k; omega
      have hcell := HB.out.cell (i := k) (by have := HL.out; omega)
      have hfr := HB.out.frozen k
      have hcell2 := HB.out.cell (i := k + 1) (by have := HL.out; omega)
      have hfr2 := HB.out.frozen (k + 1)
      have HS := Lib.hid (HI.out.step Ra.out.dig HS0.out (by have := Ha.out; omega))
      have hor := or_low (x := dg a k) HS0.out HI.out.2.2.1
      have hlt := or_low_lt (x := dg a k) HS0.out HI.out.2.2.1
      have hov : dg a k * 2 ^ s / 4294967296 < 4294967296 := by
        obtain ⟨t, _, h1, _⟩ := pow_split HS0.out
        have := Nat.mul_le_mul (Nat.le_of_lt (dg_lt Ra.out.dig k)) h1
        omega
      have hpp : dg a k * 2 ^ s < 18446744073709551616 := by omega
      have ecast : (dg a k : Int) * 2 ^ s = ((dg a k * 2 ^ s : Nat) : Int) := by simp
      have HW : Hid (IntKind.u64.wrap ((dg a k : Int) * 2 ^ s) = (dg a k : Int) * 2 ^ s) := by rw [ecast]; exact IntWalk.u64_in _ (by omega)
      have HV1 : Hid (Value.int .u32 (bits BinOp.or IntKind.u32 (dg l k) ((dg a k : Int) * 2 ^ s % 4294967296)) = .int .u32 ((dg l k + dg a k * 2 ^ s % 4294967296 : Nat) : Int)) := by
        rw [ecast, show ((dg a k * 2 ^ s : Nat) : Int) % 4294967296 = ((dg a k * 2 ^ s % 4294967296 : Nat) : Int) from by omega, u32_or_nat _ _ (dg_lt HI.out.1 k) (by omega), hor]
        rfl
      have HV2 : Hid (Value.int .u32 (IntKind.u64.wrap ((dg a k : Int) * 2 ^ s) / 4294967296 % 4294967296) = .int .u32 ((dg a k * 2 ^ s / 4294967296 : Nat) : Int)) := by
        rw [HW.out, ecast]
        exact int_cong (by omega)
      have HBS := Lib.hid ((HB.out.set k hlt).set (k + 1) hov)
      rw [← HV1.out, ← HV2.out] at HBS
      clear hor hlt hov hpp ecast
      go_wp2_with fail
      go_roundw
      case rel => exact ⟨k + 1, _, by omega, by go_num, HS.out, by have := HL.out; simp [Hid, this], HBS.out, (hbel.setCell (p := ⟨w.heap.size, k, none⟩) (Nat.le_refl _) _).setCell (p := ⟨w.heap.size, k + 1, none⟩) (Nat.le_refl _) _⟩
      case measure => simp [intOf]; omega
    · obtain rfl : k = na := by omega
      go_wp2_with fail
      go_ret
      exact ⟨_, l, rfl, HB.out, HL.out, HI.out, Nat.le_refl _, hbel⟩
end Go.Proofs.YtchnaimpmegbkaaGreatDoor

/- What parted is made of: unshifted, Clone, Div32. -/
namespace Go.Proofs.YtchnaimpmegbkaaGreatDoor
open Go.RowKit
set_option linter.unusedVariables false

theorem u64_or_hi {x y : Nat} (hy : y < 4294967296) : x * 4294967296 ||| y = x * 4294967296 + y := by
  have := Nat.two_pow_add_eq_or_of_lt (i := 32) (b := y) hy x
  rw [show (2 : Nat) ^ 32 = 4294967296 from rfl] at this
  rw [Nat.mul_comm x, ← this]
theorem u64_hilo {x y : Nat} (hx : x < 4294967296) (hy : y < 4294967296) : bits BinOp.or IntKind.u64 (((x : Nat) : Int) * 4294967296) ((y : Nat) : Int) = ((x * 4294967296 + y : Nat) : Int) := by
  rw [show (x : Int) * 4294967296 = ((x * 4294967296 : Nat) : Int) from by omega, u64_or_nat _ _ (by omega) (by omega), u64_or_hi hy]

set_option maxHeartbeats 1000000 in
theorem unshifted_any (A : Option Addr) (ca : Nat) (a : List Nat) (s : Nat) (w : World) {na : Nat} (hna : a.length = na) (ha : NR w A ca a) (hs : s ≤ 31) :
    Calls Tryz.prog 117 #[.slice A na ca, .int .u64 s] w fun e w' => ∃ A' c', e = .returned (.slice A' (digs (val a / 2 ^ s)).length c') ∧ NF w.heap.size w' A' c' (digs (val a / 2 ^ s)) ∧ Below w.heap.size w w' := by
  have la : na ≤ 35184372088832 := by have := ha.len; omega
  have Ha := Lib.hid hna
  have Ra := Lib.hid ha
  have hs2 : (s : Int) ≤ 31 := by omega
  have HS0 := Lib.hid hs
  clear hna ha hs
  go_enter Tryz.func117, Tryz.ntmps117
  go_wp2_with (at_make; refine wpList_make_nat _ rfl _ _ rfl na rfl rfl (by omega) (by omega) (by omega) ?_; intro w1 hk1 hb1 hs1)
  have HK1 := Lib.hid hk1
  clear hk1
  go_loopw [12] (fun vk wr => ∃ (k : Nat) (l : List Nat), k ≤ na ∧ vk = .int .i64 k ∧ Hid (UnI a l s k) ∧ Hid (l.length = na) ∧ Hid (BlkN wr w.heap.size l) ∧ Below w.heap.size w wr) (fun vk _ => na - (intOf vk).toNat)
  case atStart => exact ⟨0, List.replicate na 0, by omega, rfl, by have := UnI.start a s; rw [Ha.out] at this; exact this, by simp [Hid], HK1.out, hb1⟩
  case round =>
    obtain ⟨k, l, hk, rfl, HI, HL, HB, hbel⟩ := hrel
    by_cases hkn : k < na
    · have hcell := HB.out.cell (i := k) (by have := HL.out; omega)
      have hfr := HB.out.frozen k
      have d1 : (dg a (k + 1) : Int) ≤ 4294967295 := by have := dg_lt Ra.out.dig (k + 1); omega
      have d0 : (dg a k : Int) ≤ 4294967295 := by have := dg_lt Ra.out.dig k; omega
      have HS := Lib.hid (HI.out.step HS0.out Ra.out.dig (by have := Ha.out; omega))
      go_wp2_with fail
      refine (digit_any _ _ a (k + 1) _ Ha.out (Ra.out.below hbel) (by omega)).mono ?_
      rintro e w2 ⟨rfl, rfl⟩
      go_wp2_with fail
      refine (digit_any _ _ a k _ Ha.out (Ra.out.below hbel) (by omega)).mono ?_
      rintro e w2 ⟨rfl, rfl⟩
      have HO := Lib.hid (u64_hilo (dg_lt Ra.out.dig (k + 1)) (dg_lt Ra.out.dig k))
      generalize hx : dg a (k + 1) * 4294967296 + dg a k = x at *
      have HX : Hid (x < 18446744073709551616) := by have := dg_lt Ra.out.dig (k + 1); have := dg_lt Ra.out.dig k; unfold Hid; omega
      have HV : Hid (Value.int .u32 ((x : Int) / 2 ^ s % 4294967296) = .int .u32 ((x / 2 ^ s % 4294967296 : Nat) : Int)) := int_cong (by simp)
      have HBS := Lib.hid (HB.out.set k (x := x / 2 ^ s % 4294967296) (by omega))
      rw [← HV.out] at HBS
      clear hx
      go_wp2_with fail
      rw [HO.out]
      go_roundw
      case rel => exact ⟨k + 1, _, by omega, by go_num, HS.out, by have := HL.out; simp [Hid, this], HBS.out, hbel.setCell (Nat.le_refl _) _⟩
      case measure => simp [intOf]; omega
    · obtain rfl : k = na := by omega
      have HF := Lib.hid (UnI.fin (u := a) (by have := HI.out; rw [Ha.out]; exact this) Ra.out.dig)
      have hnf := HB.out.nf (B := w.heap.size) (c := k) (Nat.le_refl _) (by have := HL.out; omega) (by omega) (by have := HL.out; omega)
      go_wp2_with fail
      refine (trim_any _ _ l _ HL.out hnf.1).mono ?_
      rintro e w2 ⟨rfl, rfl⟩
      go_wp2_with fail
      go_ret
      rw [HF.out]
      exact ⟨_, _, rfl, by have := hnf.trim; rwa [HF.out] at this, hbel⟩

set_option maxHeartbeats 1000000 in
theorem Div32_any (hi lo y : Nat) (w : World) (hlo : lo < 4294967296) (hy : y < 4294967296) (h : hi < y) {X Y Z : Int} (eX : X = hi) (eY : Y = lo) (eZ : Z = y) :
    Calls Tryz.prog 112 #[.int .u32 X, .int .u32 Y, .int .u32 Z] w fun e w' => e = .returned (.tuple #[.int .u32 ((hi * 4294967296 + lo) / y : Nat), .int .u32 ((hi * 4294967296 + lo) % y : Nat)]) ∧ w.drew = w' := by
  subst eX eY eZ
  have h1 : (hi : Int) ≤ 4294967295 := by omega
  have h2 : (lo : Int) ≤ 4294967295 := by omega
  have h3 : (y : Int) ≤ 4294967295 := by omega
  have h4 : ((y : Int) != 0) = true := by simp; omega
  have h4' : (y != 0) = true := by simp; omega
  have h5 : decide (y ≤ hi) = false := by simp; omega
  have h6 : (y : Int) ≠ 0 := by omega
  have HO := Lib.hid (u64_hilo (x := hi) (y := lo) (by omega) hlo)
  generalize hx : hi * 4294967296 + lo = x at *
  have HX : Hid (x < y * 4294967296) := by unfold Hid; omega
  have HX2 : Hid (x < 18446744073709551616) := by unfold Hid; omega
  have HY := Lib.hid hy
  clear hlo hy h hx
  go_enter Tryz.func112, Tryz.ntmps112
  go_wp2_with fail
  rw [HO.out]
  go_region
  go_wp2_with fail
  go_ret2
  have hq : x / y < 4294967296 := by rw [Nat.div_lt_iff_lt_mul (by have := HX.out; omega), Nat.mul_comm]; exact HX.out
  have hr : x % y < 4294967296 := by have := Nat.mod_lt x (y := y) (by have := HX.out; omega); have := HY.out; omega
  refine ⟨tuple_int2 ?_ ?_, rfl⟩
  · rw [quo_castk]; generalize x / y = q at *; rw [IntWalk.u64_in _ (by omega)]; omega
  · rw [emod_cast]; omega
set_option maxHeartbeats 1000000 in
/-- slices.Clone. -/
@[local go_sem] theorem eql_nat (w : World) (a : Option Addr) (n c : Nat) : (binOp .eql 25 (.slice a n c) (.slice none 0 0)).run Tryz.prog w = .ok (.bool a.isNone) w := by
  exact Lib.run_eql_slice_nil (P := Tryz.prog) w 25 120 a n c 0 0 Tryz.underlying25
theorem Clone_any (A : Option Addr) (c : Nat) (l : List Nat) (w : World) {n : Nat} (hn : l.length = n) (h : NR w A c l) :
    Calls Tryz.prog 111 #[.slice A n c] w fun e w' => ∃ A' c', e = .returned (.slice A' n c') ∧ NF w.heap.size w' A' c' l ∧ Below w.heap.size w w' := by
  have hlen : n ≤ 35184372088832 := by have := h.len; omega
  have HN := Lib.hid hn
  cases A with
  | none =>
    have hl : l = [] := by
      apply Classical.byContradiction
      intro hne
      obtain ⟨b, off, e, _⟩ := h.2.2.2 hne
      cases e
    have hn0 : n = 0 := by rw [← hn, hl]; rfl
    clear hn HN hlen h
    subst hn0 hl
    go_enter Tryz.func111, Tryz.ntmps111
    go_wp2
    go_ret
    exact ⟨none, 0, rfl, NF.nil _ _, Below.refl _ _⟩
  | some p =>
    clear hn
    go_enter Tryz.func111, Tryz.ntmps111
    go_wp2_with (at_builtin; go_loud (refine wpList_append_nat _ rfl (.tmp 5) (.tmp 6) rfl w.heap.size (some ⟨w.heap.size, 0, none⟩) 0 0 [] rfl rfl ⟨World.ownsRow_lit w #[] 0 (Nat.le_refl _) (by simp [maxLen]) (by simp), Dig.nil, by simp⟩ (some p) n c l HN.out rfl (HN.out ▸ (h.alloc _).src) h.dig (by omega) (by simp) ?_); intro A' c' w' hon hbel hg; clear hg)
    go_ret
    exact ⟨A', c', ret_slice (by simp), hon.nf, ((Below.refl _ _).alloc (Nat.le_refl _) _).trans hbel⟩
end Go.Proofs.YtchnaimpmegbkaaGreatDoor

/- subtract and giveBack: on a part of a block. -/
namespace Go.Proofs.YtchnaimpmegbkaaGreatDoor
open Go.RowKit
set_option linter.unusedVariables false

/-- Nothing but block g has turned. -/
structure Only (g : Nat) (w w' : World) : Prop where
  os : w'.os = w.os
  tape : w'.tape = w.tape
  output : w'.output = w.output
  size : w'.heap.size = w.heap.size
  block : ∀ k, k ≠ g → w'.heap[k]? = w.heap[k]?
theorem Only.refl (g : Nat) (w : World) : Only g w w := ⟨rfl, rfl, rfl, rfl, fun _ _ => rfl⟩
theorem Only.trans {g : Nat} {a b c : World} (h : Only g a b) (k : Only g b c) : Only g a c :=
  ⟨k.os.trans h.os, k.tape.trans h.tape, k.output.trans h.output, k.size.trans h.size, fun i hi => (k.block i hi).trans (h.block i hi)⟩
theorem Only.setCell {g : Nat} {a w : World} (h : Only g a w) (i : Nat) (u : Value) : Only g a (w.setCell ⟨g, i, none⟩ u) :=
  h.trans ⟨rfl, rfl, rfl, by simp [World.setCell], fun k hk => Below.heap_setCell w ⟨g, i, none⟩ u k hk⟩
theorem Only.drew {g : Nat} {a w : World} (h : Only g a w) : Only g a w.drew := h.trans ⟨rfl, rfl, rfl, rfl, fun _ _ => rfl⟩
theorem Only.drewN {g : Nat} {a w : World} (h : Only g a w) (n : Nat) : Only g a (w.drewN n) := h.trans ⟨rfl, rfl, rfl, rfl, fun _ _ => rfl⟩
theorem Only.below {g B : Nat} {a w : World} (h : Only g a w) (hg : B ≤ g) : Below B a w := ⟨h.os, h.tape, h.output, Nat.le_of_eq h.size.symm, fun k hk => h.block k (by omega)⟩
/-- A number that does not lie in block g. -/
def Far (g : Nat) (A : Option Addr) (l : List Nat) : Prop := l ≠ [] → ∀ b off, A = some ⟨b, off, none⟩ → b ≠ g
theorem NR.only {g : Nat} {a w : World} {A : Option Addr} {c : Nat} {l : List Nat} (h : NR a A c l) (hf : Far g A l) (ho : Only g a w) : NR w A c l :=
  ⟨h.1, h.2.1, h.2.2.1, fun hn => by
    obtain ⟨b, off, e, hb, hc⟩ := h.2.2.2 hn
    exact ⟨b, off, e, by rw [ho.size]; exact hb, fun i hi => (World.cell?_of_block (a := ⟨b, off + i, none⟩) (ho.block b (hf hn b off e))).trans (hc i hi)⟩⟩

set_option maxHeartbeats 2000000 in
set_option maxRecDepth 100000 in
theorem subtract_any (g j m c : Nat) (u : List Nat) (V : Option Addr) (cv : Nat) (v : List Nat) (x : Nat) (w : World) {nv : Nat} (hu : BlkN w g u) (hjm : j + m ≤ u.length) (hlen : u.length ≤ 70368744177664) (hcm : m ≤ c) (hnv : v.length = nv) (hv : NR w V cv v) (hf : Far g V v) (hvm : nv < m) (hx : x < 4294967296) :
    Calls Tryz.prog 115 #[.slice (some ⟨g, j, none⟩) m c, .slice V nv cv, .int .u64 x] w fun e w' => ∃ u' b, e = .returned (.bool (b != 0)) ∧ BlkN w' g u' ∧ SubI u v u' j x m 0 b ∧ Only g w w' := by
  have lv : nv ≤ 35184372088832 := by have := hv.len; omega
  have Hv := Lib.hid hnv
  have Rv := Lib.hid hv
  have HF := Lib.hid hf
  have HU := Lib.hid hu
  have hx2 : (x : Int) ≤ 4294967295 := by omega
  have HXX := Lib.hid hx
  clear hnv hv hf hu hx
  go_enter Tryz.func115, Tryz.ntmps115
  go_wp2_with fail
  go_loopw [7, 8, 13] (fun vc vb vk wr => ∃ (k c b : Nat) (l : List Nat), k ≤ m ∧ vk = .int .i64 k ∧ vc = .int .u64 c ∧ vb = .int .u32 b ∧ Hid (SubI u v l j x k c b) ∧ Hid (BlkN wr g l) ∧ Only g w wr) (fun _ _ vk _ => m - (intOf vk).toNat)
  case atStart => exact ⟨0, 0, 0, u, by omega, rfl, rfl, rfl, SubI.start HU.out.2 _ _, HU.out, Only.refl _ _⟩
  case round =>
    obtain ⟨k, c0, b, l, hk, rfl, rfl, rfl, HI, HB, hon⟩ := hrel
    have hc4 : (c0 : Int) ≤ 4294967295 := by have := HI.out.2.2.1; omega
    have hb1 : (b : Int) ≤ 1 := by have := HI.out.2.2.2.1; omega
    have HL : Hid (l.length = u.length) := HI.out.2.1
    by_cases hkn : k < m
    · have hcell := HB.out.cell (i := j + k) (by have := HL.out; omega)
      have hfr := HB.out.frozen (j + k)
      have hdv : (dg v k : Int) ≤ 4294967295 := by have := dg_lt Rv.out.dig k; omega
      obtain ⟨q1, q2⟩ := HI.out.bound Rv.out.dig HXX.out
      have q4 : (x : Int) * dg v k ≤ 18446744065119617025 := by rw [← Int.natCast_mul]; omega
      have q5 : 0 ≤ (x : Int) * dg v k := by rw [← Int.natCast_mul]; omega
      have q6 : (x : Int) * dg v k + c0 ≤ 18446744073709551615 := by rw [← Int.natCast_mul]; omega
      have HQ : Hid ((x : Int) * dg v k + c0 = ((x * dg v k + c0 : Nat) : Int)) := by unfold Hid; rw [← Int.natCast_mul]; omega
      have HQ3 := Lib.hid q1
      have hlk : dg l (j + k) = dg u (j + k) := HI.out.2.2.2.2.2.1 _ (by omega)
      obtain ⟨d, b', hd, hb', he, hcall⟩ := Sub32_any (dg u (j + k)) ((x * dg v k + c0) % 4294967296) b (dg_lt HU.out.2 _) (by omega) (by omega)
      have HS := Lib.hid (HI.out.step Rv.out.dig HXX.out (by omega) hd hb' he)
      have HBS := Lib.hid (HB.out.set (j + k) hd)
      have HC := Lib.hid hcall
      rw [hlk] at hcell
      clear q1 q2 he hcall hlk
      go_wp2_with fail
      refine (digit_any _ _ v k _ Hv.out (Rv.out.only HF.out hon) (by omega)).mono ?_
      rintro e w2 ⟨rfl, rfl⟩
      go_wp2_with fail
      refine (halves_any _ _ HQ.out (by have := HQ3.out; omega)).mono ?_
      rintro e w2 ⟨rfl, rfl⟩
      go_wp2_with fail
      refine (HC.out _ _ _ _ rfl rfl rfl).mono ?_
      rintro e w2 ⟨rfl, rfl⟩
      go_wp2_with fail
      go_roundw
      case rel => exact ⟨k + 1, _, b', _, by omega, by go_num, rfl, rfl, HS.out, HBS.out, hon.setCell _ _⟩
      case measure => simp [intOf]; omega
    · obtain rfl : k = m := by omega
      have hc0 : c0 = 0 := HI.out.2.2.2.2.1 (by have := Hv.out; omega)
      subst hc0
      go_wp2_with fail
      go_ret
      exact ⟨l, b, ret_bool (by rcases (by omega : b = 0 ∨ b = 1) with rfl | rfl <;> rfl), HB.out, HI.out, hon⟩

set_option maxHeartbeats 2000000 in
set_option maxRecDepth 100000 in
theorem giveBack_any (g j m c : Nat) (u : List Nat) (V : Option Addr) (cv : Nat) (v : List Nat) (w : World) {nv : Nat} (hu : BlkN w g u) (hjm : j + m ≤ u.length) (hlen : u.length ≤ 70368744177664) (hcm : m ≤ c) (hnv : v.length = nv) (hv : NR w V cv v) (hf : Far g V v) (hvm : nv < m) :
    Calls Tryz.prog 116 #[.slice (some ⟨g, j, none⟩) m c, .slice V nv cv] w fun e w' => ∃ u' b x, e = .returned x ∧ BlkN w' g u' ∧ GiveI u v u' j m b ∧ Only g w w' := by
  have lv : nv ≤ 35184372088832 := by have := hv.len; omega
  have Hv := Lib.hid hnv
  have Rv := Lib.hid hv
  have HF := Lib.hid hf
  have HU := Lib.hid hu
  clear hnv hv hf hu
  go_enter Tryz.func116, Tryz.ntmps116
  go_wp2_with fail
  go_loopw [4, 8] (fun vc vk wr => ∃ (k c : Nat) (l : List Nat), k ≤ m ∧ vk = .int .i64 k ∧ vc = .int .u32 c ∧ Hid (GiveI u v l j k c) ∧ Hid (BlkN wr g l) ∧ Only g w wr) (fun _ vk _ => m - (intOf vk).toNat)
  case atStart => exact ⟨0, 0, u, by omega, rfl, rfl, GiveI.start HU.out.2 _, HU.out, Only.refl _ _⟩
  case round =>
    obtain ⟨k, c0, l, hk, rfl, rfl, HI, HB, hon⟩ := hrel
    have hc1 : c0 ≤ 1 := HI.out.2.2.1
    have hc4 : (c0 : Int) ≤ 1 := by omega
    have HL : Hid (l.length = u.length) := HI.out.2.1
    by_cases hkn : k < m
    · have hcell := HB.out.cell (i := j + k) (by have := HL.out; omega)
      have hfr := HB.out.frozen (j + k)
      have hdv : (dg v k : Int) ≤ 4294967295 := by have := dg_lt Rv.out.dig k; omega
      have hlk : dg l (j + k) = dg u (j + k) := HI.out.2.2.2.1 _ (by omega)
      have HS := Lib.hid (HI.out.step HU.out.2 Rv.out.dig (by omega))
      have HBS := Lib.hid (HB.out.set (j + k) (x := (dg u (j + k) + dg v k + c0) % 4294967296) (by omega))
      have HDU := Lib.hid (dg_lt HU.out.2 (j + k))
      have HDV := Lib.hid (dg_lt Rv.out.dig k)
      rw [hlk] at hcell
      clear hlk
      go_wp2_with fail
      have hon2 : Only g w wr.drew := hon.drew
      have R2 := Lib.hid (Rv.out.only HF.out hon2)
      have hki : (k : Int) < m := by omega
      have hki0 : (0 : Int) ≤ k := by omega
      go_region_with (first | (go_at_call 108; refine (digit_any V cv v k _ Hv.out R2.out (by omega)).mono ?_; rintro e w' ⟨rfl, rfl⟩) | (go_at_call 130; refine (Add32_any (dg u (j + k)) (dg v k) c0 _ HDU.out HDV.out hc1 rfl (by first | rfl | exact IntWalk.u32_in _ (by omega)) rfl).mono ?_; rintro e w' ⟨rfl, rfl⟩))
      all_goals
        go_wp2_with fail
        go_roundw
        case rel => exact ⟨k + 1, _, _, by omega, by go_num, rfl, HS.out, HBS.out, (hon.setCell _ _).drew⟩
        case measure => simp [intOf]; omega
    · obtain rfl : k = m := by omega
      go_wp2_with fail
      go_end0
      exact ⟨l, c0, _, rfl, HB.out, HI.out, hon⟩
end Go.Proofs.YtchnaimpmegbkaaGreatDoor
