/-
  Lemmas and contracts, joined.
-/
import Derived.Test.YtchnaimpmegbkaaGreatDoorShelf
import Derived.Lib.ItoaNum
import Derived.Deep.Cut
import Derived.Deep.CutRange
import Derived.Deep.CutBlock
import Derived.Deep.DeepCutAuto
import Derived.Deep.LoopGhost
import Derived.Deep.RegionHeld3
import Derived.Lib.SlBytesRow
import Derived.WalkMore
import Derived.Deep.QuietTactic
import Derived.BigQuiet
import Derived.Test.YtchnaimpmegbkaaGreatDoorTfTn2
import Derived.Test.YtchnaimpmegbkaaGreatDoorTfTn1
set_option linter.unusedSimpArgs false
set_option linter.unusedVariables false
set_option linter.unnecessarySimpa false
/- parted: what it hands back; the case of a smaller number. -/
namespace Go.Proofs.YtchnaimpmegbkaaGreatDoor
open Go.RowKit
set_option linter.unusedVariables false

/-- Two numbers that do not lie in one block. -/
def Apart (A : Option Addr) (a : List Nat) (B : Option Addr) (b : List Nat) : Prop := a ≠ [] → b ≠ [] → ∀ g o h p, A = some ⟨g, o, none⟩ → B = some ⟨h, p, none⟩ → g ≠ h
/-- What 'parted' hands back. -/
def PartOut (w w' : World) (e : Ending) (x y : Nat) : Prop :=
  ∃ Q cq R cr, e = .returned (.tuple #[.slice Q (digs (x / y)).length cq, .slice R (digs (x % y)).length cr]) ∧ NF w.heap.size w' Q cq (digs (x / y)) ∧ NF w.heap.size w' R cr (digs (x % y)) ∧ Apart Q (digs (x / y)) R (digs (x % y)) ∧ Below w.heap.size w w'
theorem tuple_two {a b c d : Value} (h : a = c) (h2 : b = d) : Ending.returned (.tuple #[a, b]) = .returned (.tuple #[c, d]) := by rw [h, h2]

/-- How far the first digit of a divisor is from the top. -/
theorem top_shift (t : Nat) (h0 : t ≠ 0) (h : t < 4294967296) : ∃ s : Nat, s ≤ 31 ∧ (32 : Int) - (Lib.bitLen t : Int) = s ∧ 2147483648 ≤ t * 2 ^ s ∧ t * 2 ^ s < 4294967296 := by
  obtain ⟨h1, h2, h3⟩ := Lib.bitLenAux_bounds 64 t (by omega) h0
  have hb : Lib.bitLen t = Lib.bitLenAux 64 t := rfl
  rw [hb]
  generalize Lib.bitLenAux 64 t = L at h1 h2 h3 ⊢
  have hL : L ≤ 32 := by
    rcases Nat.lt_or_ge 32 L with h4 | h4
    · exfalso
      have : 2 ^ 32 ≤ 2 ^ (L - 1) := Nat.pow_le_pow_right (by omega) (by omega)
      omega
    · exact h4
  obtain ⟨k, rfl⟩ : ∃ k, L = k + 1 := ⟨L - 1, by omega⟩
  have e1 : 2 ^ k * 2 ^ (31 - k) = 2147483648 := by rw [← Nat.pow_add, show k + (31 - k) = 31 from by omega]
  have e2 : 2 ^ (k + 1) * 2 ^ (31 - k) = 4294967296 := by rw [← Nat.pow_add, show k + 1 + (31 - k) = 32 from by omega]
  refine ⟨31 - k, by omega, by omega, ?_, ?_⟩
  · rw [← e1]; exact Nat.mul_le_mul_right _ (by simpa using h2)
  · rw [← e2]; exact Nat.mul_lt_mul_of_pos_right h3 (Nat.two_pow_pos _)

set_option maxHeartbeats 1000000 in
set_option maxRecDepth 100000 in
theorem parted_less (A : Option Addr) (ca : Nat) (a : List Nat) (Bd : Option Addr) (cb : Nat) (b : List Nat) (w : World) {na nb : Nat} (hna : a.length = na) (hnb : b.length = nb) (ha : NR w A ca a) (hb : NR w Bd cb b) (ta : Trm a) (tb : Trm b) (hl : val a < val b) :
    Calls Tryz.prog 91 #[.slice A na ca, .slice Bd nb cb] w fun e w' => PartOut w w' e (val a) (val b) := by
  have Ha := Lib.hid hna
  have Hb := Lib.hid hnb
  have HC := Lib.hid (cmpN_lt hl)
  have hb0 : Below w.heap.size w ((w.alloc (.cells #[.slice A na ca] 25)).alloc (.cells #[.slice Bd nb cb] 25)) := ((Below.refl _ _).alloc (Nat.le_refl _) _).alloc (by simp) _
  have Ra := Lib.hid (ha.below hb0)
  have Rb := Lib.hid (hb.below hb0)
  have hq : val a / val b = 0 := Nat.div_eq_of_lt hl
  have hr : val a % val b = val a := Nat.mod_eq_of_lt hl
  unfold PartOut
  rw [hq, hr, digs_val ha.dig ta]
  clear hna hnb ha hb hl hq hr
  go_enter Tryz.func91, Tryz.ntmps91
  go_wp2_with fail
  refine (order_any A ca a Bd cb b _ Ha.out Hb.out Ra.out Rb.out ta tb).mono ?_
  rintro e w1 ⟨rfl, hb1⟩
  rw [HC.out]
  have c2 : w1.cell? ⟨w.heap.size, 0, none⟩ = some (.slice A na ca) := (hb1.cell (p := ⟨w.heap.size, 0, none⟩) (by simp <;> omega)).trans (by simp)
  go_wp2_with fail
  refine (Clone_any A ca a w1 Ha.out (Ra.out.below hb1)).mono ?_
  rintro e w2 ⟨A', c', rfl, hnf, hb2⟩
  go_wp2_with fail
  go_ret2
  have hs : w.heap.size ≤ w1.heap.size := Nat.le_trans hb0.size hb1.size
  exact ⟨none, 0, A', c', tuple_two rfl (by rw [Ha.out]; rfl), NF.nil _ _, hnf.mono hs, fun h => absurd rfl h, (hb0.trans (hb1.mono hb0.size)).trans (hb2.mono hs)⟩

end Go.Proofs.YtchnaimpmegbkaaGreatDoor

/- parted: the long division, where the divisor has two digits or more. -/
namespace Go.Proofs.YtchnaimpmegbkaaGreatDoor
open Go.RowKit
set_option linter.unusedVariables false

/-- The shifted divisor: as many digits, the last one great. -/
theorem shifted_len {b : List Nat} {n s : Nat} (hd : Dig b) (hn : b.length = n) (h1 : 1 ≤ n) (hlo : 2147483648 ≤ dg b (n - 1) * 2 ^ s) (hhi : dg b (n - 1) * 2 ^ s < 4294967296) (hs : s ≤ 31) :
    (digs (val b * 2 ^ s)).length = n ∧ 2147483648 ≤ dg (digs (val b * 2 ^ s)) (n - 1) := by
  obtain ⟨m, rfl⟩ : ∃ m, n = m + 1 := ⟨n - 1, by omega⟩
  rw [Nat.add_sub_cancel] at *
  obtain ⟨t, ht, _, _, hp⟩ := pow_split hs
  have e1 : val b = val (b.take m) + 4294967296 ^ m * dg b m := by rw [← val_take_succ, List.take_of_length_le (by omega)]
  have h2 := val_take_lt hd m
  have hup : val b * 2 ^ s < 4294967296 ^ (m + 1) := by
    have h3 : val b < 4294967296 ^ m * (dg b m + 1) := by rw [Nat.mul_add]; omega
    have h4 : (dg b m + 1) * 2 ^ s ≤ 4294967296 := by
      rw [← ht, Nat.mul_comm] at hhi
      rw [← ht, Nat.mul_comm]
      exact Nat.mul_le_mul_left _ (Nat.lt_of_mul_lt_mul_left hhi)
    have h5 := Nat.mul_lt_mul_of_pos_right h3 (show 0 < 2 ^ s by omega)
    rw [Nat.mul_assoc] at h5
    have h6 := Nat.mul_le_mul_left (4294967296 ^ m) h4
    rw [Nat.pow_succ]
    omega
  have hdn : 4294967296 ^ m * 2147483648 ≤ val b * 2 ^ s := by
    have h3 := Nat.mul_le_mul_left (4294967296 ^ m) hlo
    rw [e1, Nat.add_mul, Nat.mul_assoc]
    omega
  have hl1 := digs_len_le hup
  have hl2 : m + 1 ≤ (digs (val b * 2 ^ s)).length := by
    rcases Nat.lt_or_ge m (digs (val b * 2 ^ s)).length with h | h
    · exact h
    · exfalso
      have := lt_of_digs_len h
      have : 4294967296 ^ m * 1 ≤ 4294967296 ^ m * 2147483648 := Nat.mul_le_mul_left _ (by omega)
      omega
  have hl : (digs (val b * 2 ^ s)).length = m + 1 := by omega
  refine ⟨hl, ?_⟩
  have hv := val_digs (val b * 2 ^ s)
  have h7 := val_div_pow (Dig.digs (val b * 2 ^ s)) m
  rw [hv, val_drop_succ, val_zero_of (l := (digs (val b * 2 ^ s)).drop (m + 1)) (fun i => by rw [dg_drop]; exact dg_out (by omega)), Nat.mul_zero, Nat.add_zero] at h7
  rw [← h7, Nat.le_div_iff_mul_le (Nat.pow_pos (by omega)), Nat.mul_comm]
  exact hdn
theorem box_keep {w w' : World} {k : Nat} {v : Value} (hb : Below w.heap.size w w') (hn : k < w.heap.size) (hc : w.cell? ⟨k, 0, none⟩ = some v) : w'.cell? ⟨k, 0, none⟩ = some v := (hb.cell (p := ⟨k, 0, none⟩) hn).trans hc
/-- The numbers behind the two shifts. -/
structure Shifted (w wx : World) (a b : List Nat) (na nb s : Nat) (vu vv : Value) : Prop where
  out : ∃ gu lu gv cv, vu = .slice (some ⟨gu, 0, none⟩) (na + 1) (na + 1) ∧ vv = .slice (some ⟨gv, 0, none⟩) nb cv ∧ BlkN wx gu lu ∧ lu.length = na + 1 ∧ val lu = val a * 2 ^ s ∧ dg lu na < 2147483648 ∧
    NR wx (some ⟨gv, 0, none⟩) cv (digs (val b * 2 ^ s)) ∧ gv ≠ gu ∧ w.heap.size ≤ gu ∧ Below w.heap.size w wx

/-- The part at j: a window of n + 1 digits. -/
theorem part_at (W : World) (g m j n : Nat) (h : j + n + 1 ≤ m) :
    (Instr.slice 25 (.slice (some ⟨g, 0, none⟩) m m) (some (.int .i64 (j : Int))) (some (.int .i64 ((j : Int) + n + 1))) none).run Tryz.prog W = .ok (.slice (some ⟨g, j, none⟩) (n + 1) (m - j)) W := by
  have := Lib.run_slice_window (P := Tryz.prog) W 25 120 Tryz.underlying25 Tryz.sizeOf120 g 0 m m j (j + n + 1) (by omega) h
  rw [show ((j + n + 1 : Nat) : Int) = (j : Int) + n + 1 from by omega, Nat.zero_add, show j + n + 1 - j = n + 1 from by omega] at this
  exact this
theorem Shifted.of {w w3 wx : World} {a b lA lB : List Nat} {na nb s gA gB : Nat} (hwx : Below w3.heap.size w3 wx) (hb : Below w.heap.size w w3) (kA : BlkN wx gA lA) (kB : BlkN wx gB lB) (hlA : lA.length = na + 1) (hsA : ShI a lA s na)
    (hlB : lB.length = nb + 1) (hsB : ShI b lB s nb) (Ha : a.length = na) (Hb : b.length = nb) (hne : gB ≠ gA) (hgA : w.heap.size ≤ gA) (hs : s ≤ 31) (hln : (digs (val b * 2 ^ s)).length = nb) (la : na ≤ 1048576) (lb : nb ≤ 1048576) :
    Shifted w wx a b na nb s (.slice (some ⟨gA, 0, none⟩) (na + 1) (na + 1)) (.slice (some ⟨gB, 0, none⟩) (digs (val lB)).length (nb + 1)) := by
  subst Ha Hb
  have eB : val lB = val b * 2 ^ s := hsB.fin
  obtain ⟨t, _, h1, _⟩ := pow_split hs
  have hn := (kB.nf (B := 0) (c := b.length + 1) (Nat.zero_le _) (by omega) (by omega) (by omega)).1.trim
  rw [eB] at hn ⊢
  exact ⟨gA, lA, gB, _, rfl, by rw [hln], kA, hlA, hsA.fin, Nat.lt_of_lt_of_le hsA.2.2.1 h1, hn, hne, hgA, hb.trans (hwx.mono hb.size)⟩

set_option maxHeartbeats 4000000 in
set_option maxRecDepth 100000 in
theorem parted_many (A : Option Addr) (ca : Nat) (a : List Nat) (Bd : Option Addr) (cb : Nat) (b : List Nat) (w : World) {na nb : Nat} (hna : a.length = na) (hnb : b.length = nb) (ha : NR w A ca a) (hb : NR w Bd cb b) (ta : Trm a) (tb : Trm b) (hl : val b ≤ val a) (h2 : 2 ≤ nb) (la : na ≤ 1048576) (lb : nb ≤ 1048576) :
    Calls Tryz.prog 91 #[.slice A na ca, .slice Bd nb cb] w fun e w' => PartOut w w' e (val a) (val b) := by
  have Ha := Lib.hid hna
  have Hb := Lib.hid hnb
  obtain ⟨z, hz, HZ⟩ : ∃ z : Int, z = cmpN (val a) (val b) ∧ decide (z < 0) = false := ⟨_, rfl, by rcases cmpN_cases (val a) (val b) with ⟨h, e⟩ | ⟨h, e⟩ | ⟨h, e⟩ <;> (try rw [e]) <;> first | omega | rfl⟩
  have HZ0 := Lib.hid hz
  have hb0 : Below w.heap.size w ((w.alloc (.cells #[.slice A na ca] 25)).alloc (.cells #[.slice Bd nb cb] 25)) := ((Below.refl _ _).alloc (Nat.le_refl _) _).alloc (by simp) _
  have Ra := Lib.hid (ha.below hb0)
  have Rb := Lib.hid (hb.below hb0)
  have h1 : ((nb : Int) == 1) = false := by simp; omega
  have h1' : (nb == 1) = false := by simp; omega
  have htop : dg b (nb - 1) ≠ 0 := by
    rcases tb with h | h
    · rw [h] at hnb; simp at hnb; omega
    · rwa [hnb] at h
  obtain ⟨s, hs, hsI, hs1, hs2⟩ := top_shift _ htop (dg_lt hb.dig _)
  obtain ⟨bb, off, rfl, hbb, hc0⟩ := hb.at_ (i := nb - 1) (by omega)
  have HSI := Lib.hid hsI
  have HS1 := Lib.hid hs1
  have HS2 := Lib.hid hs2
  have HL := Lib.hid hl
  have htd : (dg b (nb - 1) : Int) ≤ 4294967295 := by have := dg_lt hb.dig (nb - 1); omega
  clear hna hnb ha hb hl hz hs1 hs2 hsI htop
  go_enter Tryz.func91, Tryz.ntmps91
  go_wp2_with fail
  refine (order_any A ca a _ cb b _ Ha.out Hb.out Ra.out Rb.out ta tb).mono ?_
  rintro e w1 ⟨rfl, hb1⟩
  rw [← HZ0.out]
  have c2 : w1.cell? ⟨w.heap.size, 0, none⟩ = some (.slice A na ca) := (hb1.cell (p := ⟨w.heap.size, 0, none⟩) (by simp <;> omega)).trans (by simp)
  have c3 : w1.cell? ⟨w.heap.size + 1, 0, none⟩ = some (.slice (some ⟨bb, off, none⟩) nb cb) := (hb1.cell (p := ⟨w.heap.size + 1, 0, none⟩) (by simp <;> omega)).trans (by simp)
  have c4 : w1.cell? ⟨bb, off + (nb - 1), none⟩ = some (.int .u32 (dg b (nb - 1) : Nat)) := (hb1.cell (p := ⟨bb, _, none⟩) (Nat.lt_of_lt_of_le hbb hb0.size)).trans ((hb0.cell (p := ⟨bb, _, none⟩) hbb).trans hc0)
  clear hc0
  go_wp2_with fail
  refine (Tryz.bits_LeadingZeros32 _ w1 (by omega) (by omega)).mono ?_
  rintro e w2 ⟨rfl, rfl⟩
  rw [show ((dg b (nb - 1) : Int)).toNat = dg b (nb - 1) from rfl, HSI.out]
  go_upto_region 11 with fail
  go_cut [10, 11] from 64 to 70 (fun vu vv wx => Shifted w wx a b na nb s vu vv)
  case first =>
    have hsz : w.heap.size + 1 < w2.heap.size := Nat.lt_of_lt_of_le (by simp) hb1.size
    have hsz0 : w.heap.size < w2.heap.size := by omega
    have R2a := Lib.hid (Ra.out.below hb1)
    have R2b := Lib.hid (Rb.out.below hb1)
    have hb2 : Below w.heap.size w w2 := hb0.trans (hb1.mono hb0.size)
    obtain ⟨hlen, hbig⟩ := shifted_len Rb.out.dig Hb.out (by omega) HS1.out HS2.out hs
    have HLN := Lib.hid hlen
    clear hb1 hb0 Ra Rb hlen hbig HZ h1 h1'
    go_region_with (first | (go_at_call_of 114 na; go_loud (refine (shifted_any A ca a s _ Ha.out (by first | exact R2a.out.drew.below hbB | exact R2a.out.drew) hs).mono ?_; rintro e wA ⟨gA, lA, rfl, hkA, hlA, hsA, hgA, hbA⟩; first | have c3A := box_keep hbA szB c3B | have c3A := box_keep hbA hsz c3)) | (go_at_call_of 114 nb; go_loud (refine (shifted_any _ cb b s _ Hb.out (by first | exact R2b.out.drew.below hbA | exact R2b.out.drew) hs).mono ?_; rintro e wB ⟨gB, lB, rfl, hkB, hlB, hsB, hgB, hbB⟩; first | (have szB := Nat.lt_of_lt_of_le hsz hbB.size; have c2B := box_keep hbB hsz0 c2) | skip)) | (go_at_call 59; go_loud (refine (trim_any _ _ lB _ hlB (by first | exact (hkB.nf (B := 0) (Nat.zero_le _) (by omega) (by omega) (by omega)).1 | exact (hkB.nf (B := 0) (Nat.zero_le _) (by omega) (by omega) (by omega)).1.below hbA)).mono ?_; rintro e wT ⟨rfl, rfl⟩)))
    all_goals
      go_wp2_with fail
      go_meet
      have hsw := hb2.size
      first
        | exact Shifted.of (hbA.trans (hbB.mono hbA.size)) hb2.drew (hkA.below' hbB) hkB hlA hsA hlB hsB Ha.out Hb.out (by have := hkA.lt; omega) (by have : w2.heap.size ≤ gA := hgA; omega) hs HLN.out la lb
        | exact Shifted.of (hbB.trans (hbA.mono hbB.size)) hb2.drew hkA (hkB.below' hbA) hlA hsA hlB hsB Ha.out Hb.out (by have := hkB.lt; omega) (by have h1 : w2.heap.size ≤ wB.heap.size := hbB.size; omega) hs HLN.out la lb
  case rest =>
    obtain ⟨gu, lu, gv, cv, rfl, rfl, hku, hlu, hvu, hdu, hnv, hne, hgu, hbx⟩ := hcut.out
    clear hcut
    have Ev : Hid (val (digs (val b * 2 ^ s)) = val b * 2 ^ s) := val_digs _
    obtain ⟨hlen, hbig⟩ := shifted_len Rb.out.dig Hb.out (by omega) HS1.out HS2.out hs
    generalize digs (val b * 2 ^ s) = v at *
    have HVL := Lib.hid hlen
    have HVB := Lib.hid hbig
    have hnba : nb ≤ na := by have := len_le_of_val Ra.out.dig tb HL.out; have := Ha.out; have := Hb.out; omega
    have HU0 := Lib.hid hku
    have HLU := Lib.hid hlu
    have HVU := Lib.hid hvu
    have HDU := Lib.hid hdu
    have HNV := Lib.hid hnv
    obtain ⟨gv', of', ev, hgv, hcv1⟩ := hnv.at_ (i := nb - 1) (by omega)
    obtain ⟨rfl, rfl⟩ : gv = gv' ∧ 0 = of' := by injection ev with ev; injection ev with e1 e2; exact ⟨e1, e2⟩
    obtain ⟨_, _, ev', _, hcv2⟩ := hnv.at_ (i := nb - 2) (by omega)
    obtain ⟨rfl, rfl⟩ := (by injection ev' with ev'; injection ev' with e1 e2; exact ⟨e1, e2⟩ : gv = _ ∧ 0 = _)
    rw [Nat.zero_add] at hcv1 hcv2
    have t1 : (dg v (nb - 1) : Int) ≤ 4294967295 := by have := dg_lt hnv.dig (nb - 1); omega
    have t2 : (dg v (nb - 2) : Int) ≤ 4294967295 := by have := dg_lt hnv.dig (nb - 2); omega
    have t3 : (2147483648 : Int) ≤ (dg v (nb - 1) : Int) := by omega
    have hgl := hku.lt
    clear hlen hbig hku hlu hvu hdu hnv ev ev' HZ h1 h1' hb0 hb1 c2 c3 c4 HZ0 HSI htd
    go_wp2_with fail
    go_region
    go_wp2_with (at_make; refine wpList_make_nat _ rfl _ _ rfl (na + 1 - nb) rfl rfl (by omega) (by omega) (by omega) ?_; intro w3 hk3 hb3 hs3)
    have HQ0 : Hid (BlkN w3 wc.heap.size (List.replicate (na + 1 - nb) 0)) := hk3
    have hb3' : Below wc.heap.size wc.drew w3 := hb3
    obtain ⟨gq, hgq⟩ : ∃ gq, wc.heap.size = gq := ⟨_, rfl⟩
    rw [hgq] at HQ0 hb3' ⊢
    have hgl2 : gu < gq := by omega
    have hgv2 : gv < gq := by omega
    have hgq0 : w.heap.size ≤ gq := by omega
    have HQU : Hid (gq ≠ gu) := by unfold Hid; omega
    have HQV : Hid (gq ≠ gv) := by unfold Hid; omega
    have hnq : (((na + 1 - nb : Nat)) : Int) = (na : Int) + 1 - nb := by omega
    obtain ⟨nq, hnq2⟩ : ∃ nq, na + 1 - nb = nq := ⟨_, rfl⟩
    rw [hnq2] at HQ0 hnq ⊢
    have hbw : Below w.heap.size w w3 := (hbx.drew).trans (hb3'.mono (by have := hbx.size; omega))
    have HU3 : Hid (BlkN w3 gu lu) := BlkN.below HU0.out.drew hb3' hgl2
    have HV3 : Hid (NR w3 (some ⟨gv, 0, none⟩) cv v) := (HNV.out.drew).below (by show Below wc.heap.size wc.drew w3; rw [hgq]; exact hb3')
    have hP0 : Hid (PartI (val a * 2 ^ s) (val v) lu (List.replicate nq 0) nq) := by
      refine ⟨HU0.out.2, Dig.replicate _, ?_, ?_⟩
      · rw [List.drop_of_length_le (by simp), HVU.out]; simp [val]
      · exact first_less HU0.out.2 (by omega) HVL.out (by have := HLU.out; omega) HVB.out (by have := HDU.out; rwa [HLU.out])
    have hVn : Hid (val v < 4294967296 ^ nb) := by have := val_lt HNV.out.dig; rwa [HVL.out] at this
    have Vpos : Hid (0 < val v) := by have := HVB.out; have := pow_le_val (l := v) (.inr (by rw [HVL.out]; omega)) (by intro e; have := HVL.out; rw [e] at this; simp at this; omega); have h : 0 < 4294967296 ^ (v.length - 1) := Nat.pow_pos (by omega); exact Nat.lt_of_lt_of_le h this
    clear hgq hb3 hb3' hs3 hcv1 hcv2 hk3 hnq
    go_loopg [15] nq (fun k vj wr => k ≤ nq ∧ vj = .int .i64 ((k : Int) - 1) ∧ ∃ u q, Hid (PartI (val a * 2 ^ s) (val v) u q k) ∧ Hid (u.length = na + 1) ∧ Hid (q.length = nq) ∧ Hid (BlkN wr gu u) ∧ Hid (BlkN wr gq q) ∧ Hid (NR wr (some ⟨gv, 0, none⟩) cv v) ∧ Below w.heap.size w wr)
    case atStart =>
      exact ⟨Nat.le_refl _, int_cong (by omega), lu, _, hP0.out, HLU.out, by simp [Hid], HU3.out, HQ0.out, HV3.out, hbw⟩
    case round =>
      obtain ⟨hk, rfl, u, q, HP, HL, HLQ, HB, HBQ, HV, hbel⟩ := hrel
      obtain ⟨wo, rfl⟩ : ∃ wo : World, wo = wr := ⟨_, rfl⟩
      by_cases h0 : 0 < gk
      · obtain ⟨j, rfl⟩ : ∃ j, gk = j + 1 := ⟨gk - 1, by omega⟩
        have e1 : ((j + 1 : Nat) : Int) - 1 = j := by omega
        rw [e1]
        clear e1
        have hsl := part_at wo gu (na + 1) j nb (by omega)
        have hj2 : (j : Int) + nb + 1 ≤ (na : Int) + 1 := by omega
        go_wp2_with fail
        have uc1 := HB.out.cell (i := j + nb) (by have := HL.out; omega)
        have uc2 := HB.out.cell (i := j + (nb - 1)) (by have := HL.out; omega)
        have uc3 := HB.out.cell (i := j + (nb - 2)) (by have := HL.out; omega)
        have ub1 : (dg u (j + nb) : Int) ≤ 4294967295 := by have := dg_lt HB.out.2 (j + nb); omega
        have ub2 : (dg u (j + (nb - 1)) : Int) ≤ 4294967295 := by have := dg_lt HB.out.2 (j + (nb - 1)); omega
        have ub3 : (dg u (j + (nb - 2)) : Int) ≤ 4294967295 := by have := dg_lt HB.out.2 (j + (nb - 2)); omega
        have HE := Lib.hid (HP.out.est HV.out.dig rfl h2 HVL.out (by have := HL.out; omega) HVB.out)
        have HH := Lib.hid (u64_hilo (dg_lt HB.out.2 (j + nb)) (dg_lt HB.out.2 (j + (nb - 1))))
        have HHL := Lib.hid HE.out.high_lt
        go_step3
        go_wp2_with fail
        go_region
        go_wp2_with fail
        rw [HH.out]
        generalize hhd : dg u (j + nb) * 4294967296 + dg u (j + (nb - 1)) = high at *
        have hh1 : (high : Int) ≤ 18446744073709551615 := by have := HHL.out; omega
        have hh2 : (high : Int) / (dg v (nb - 1) : Int) ≤ 18446744073709551615 := by
          rw [quo_castk]
          have := Nat.div_le_self high (dg v (nb - 1))
          generalize high / dg v (nb - 1) = z at *
          omega
        have hh3 : 0 ≤ (high : Int) / (dg v (nb - 1) : Int) := by rw [quo_castk]; exact Int.natCast_nonneg _
        have hh4 : ((dg v (nb - 1) : Int) == 0) = false := by simp; omega
        have hh5 : (dg v (nb - 1) : Int) ≠ 0 := by omega
        clear hhd
        go_region
        go_wp2_with fail
        go_step3
        go_upto_block 4 with fail
        go_cut [18, 19] from 94 to 167 (fun vx vr wx => ∃ x r : Nat, vx = .int .u64 x ∧ vr = .int .u64 r ∧ Hid (x < 4294967296 ∧ val (seg u j (nb + 1)) / val v ≤ x ∧ x ≤ val (seg u j (nb + 1)) / val v + 1) ∧ wx = wo.drew.drew)
        case first =>
          go_wp2_with fail
          go_loopg [18, 19] (high / dg v (nb - 1)) (fun g vx vr wx => ∃ r : Nat, vx = .int .u64 g ∧ vr = .int .u64 r ∧ Hid (g * dg v (nb - 1) + r = high) ∧ Hid (val (seg u j (nb + 1)) / val v ≤ g) ∧ Hid (r < 4294967296) ∧ wx = wo.drew.drew)
          case atStart =>
            refine ⟨high % dg v (nb - 1), int_cong (quo_castk _ _), int_cong (emod_cast _ _), ?_, HE.out.start, ?_, rfl⟩
            · have := Nat.div_add_mod high (dg v (nb - 1)); rw [Nat.mul_comm] at this; exact this
            · have := Nat.mod_lt high (y := dg v (nb - 1)) (by omega); unfold Hid; omega
          case round =>
            obtain ⟨r, rfl, rfl, HX, HQT, HR, rfl⟩ := hrel
            have HGL : Hid (gk ≤ high) := by
              have h1 := HX.out
              have h2 := Nat.mul_le_mul_left gk (show 1 ≤ dg v (nb - 1) by omega)
              unfold Hid; omega
            have x1 : (gk : Int) ≤ 18446744073709551615 := by have := HGL.out; omega
            have x2 : (r : Int) ≤ 4294967295 := by have := HR.out; omega
            have HOR := Lib.hid (u64_hilo HR.out (dg_lt HB.out.2 (j + (nb - 2))))
            obtain ⟨y, hy⟩ : ∃ y, r * 4294967296 + dg u (j + (nb - 2)) = y := ⟨_, rfl⟩
            rw [hy] at HOR
            have HY := Lib.hid hy
            have hor := HOR.out
            have uc3' : wo.drew.drew.cell? ⟨gu, j + (nb - 2), none⟩ = some (.int .u32 (dg u (j + (nb - 2)) : Nat)) := uc3
            clear hy
            by_cases hxB : gk < 4294967296
            · have s1 : ((gk : Int) / 4294967296 == 0) = true := by simp; omega
              have s1' : (gk : Int) / 4294967296 = 0 := by omega
              have q4 : (gk : Int) * dg v (nb - 2) ≤ 18446744065119617025 := by rw [← Int.natCast_mul]; have := Nat.mul_le_mul (show gk ≤ 4294967295 by omega) (show dg v (nb - 2) ≤ 4294967295 by omega); omega
              have q5 : 0 ≤ (gk : Int) * dg v (nb - 2) := by rw [← Int.natCast_mul]; omega
              by_cases ht : gk * dg v (nb - 2) ≤ y
              · have s2 : decide ((gk : Int) * dg v (nb - 2) ≤ (y : Int)) = true := by rw [decide_eq_true_eq, ← Int.natCast_mul]; omega
                have HO := Lib.hid (HE.out.out1 HX.out hxB (by have := HY.out; omega))
                have HXB := Lib.hid hxB
                clear ht
                go_wp2_with fail
                go_meet
                exact ⟨gk, r, rfl, rfl, ⟨HXB.out, HQT.out, HO.out⟩, rfl⟩
              · have s2 : decide ((gk : Int) * dg v (nb - 2) ≤ (y : Int)) = false := by rw [← Int.natCast_mul]; simp only [decide_eq_false_iff_not]; omega
                obtain ⟨y1, y2⟩ := HE.out.down HX.out HQT.out (.inr (by have := HY.out; omega))
                have HD := Lib.hid y2
                have HX2 : Hid ((gk - 1) * dg v (nb - 1) + (r + dg v (nb - 1)) = high) := by
                  have := HX.out
                  obtain ⟨m, rfl⟩ : ∃ m, gk = m + 1 := ⟨gk - 1, by omega⟩
                  rw [Nat.add_mul] at this
                  unfold Hid
                  simp only [Nat.add_sub_cancel]
                  omega
                clear y2 ht
                by_cases hr : r + dg v (nb - 1) < 4294967296
                · have s3 : (((r : Int) + dg v (nb - 1)) / 4294967296 != 0) = false := by simp; omega
                  have HR2 := Lib.hid hr
                  go_wp2_with fail
                  go_roundg (gk - 1)
                  case measure => omega
                  case rel => exact ⟨r + dg v (nb - 1), int_cong (by omega), int_cong (by omega), HX2.out, HD.out, HR2.out, rfl⟩
                · have s3 : (((r : Int) + dg v (nb - 1)) / 4294967296 != 0) = true := by simp; omega
                  have HO2 := Lib.hid (HE.out.out2 HX2.out (by omega))
                  have HO := Lib.hid (HE.out.out1 HX2.out HO2.out.1 HO2.out.2)
                  go_wp2_with fail
                  go_meet
                  exact ⟨gk - 1, r + dg v (nb - 1), int_cong (by omega), int_cong (by omega), ⟨HO2.out.1, HD.out, HO.out⟩, rfl⟩
            · have s1 : ((gk : Int) / 4294967296 == 0) = false := by simp; omega
              obtain ⟨y1, y2⟩ := HE.out.down HX.out HQT.out (.inl (by omega))
              have HD := Lib.hid y2
              have HX2 : Hid ((gk - 1) * dg v (nb - 1) + (r + dg v (nb - 1)) = high) := by
                have := HX.out
                obtain ⟨m, rfl⟩ : ∃ m, gk = m + 1 := ⟨gk - 1, by omega⟩
                rw [Nat.add_mul] at this
                unfold Hid
                simp only [Nat.add_sub_cancel]
                omega
              clear y2
              by_cases hr : r + dg v (nb - 1) < 4294967296
              · have s3 : (((r : Int) + dg v (nb - 1)) / 4294967296 != 0) = false := by simp; omega
                have HR2 := Lib.hid hr
                go_wp2_with fail
                go_roundg (gk - 1)
                case measure => omega
                case rel => exact ⟨r + dg v (nb - 1), int_cong (by omega), int_cong (by omega), HX2.out, HD.out, HR2.out, rfl⟩
              · have s3 : (((r : Int) + dg v (nb - 1)) / 4294967296 != 0) = true := by simp; omega
                have HO2 := Lib.hid (HE.out.out2 HX2.out (by omega))
                have HO := Lib.hid (HE.out.out1 HX2.out HO2.out.1 HO2.out.2)
                go_wp2_with fail
                go_meet
                exact ⟨gk - 1, r + dg v (nb - 1), int_cong (by omega), int_cong (by omega), ⟨HO2.out.1, HD.out, HO.out⟩, rfl⟩
        case rest =>
          obtain ⟨x, r, rfl, rfl, HXX, rfl⟩ := hcut
          have x1 : (x : Int) ≤ 4294967295 := by have := HXX.out.1; omega
          have HBD : Hid (BlkN wo.drew.drew gu u) := HB.out
          have HVD : Hid (NR wo.drew.drew (some ⟨gv, 0, none⟩) cv v) := HV.out.drew.drew
          have hfar : Far gu (some ⟨gv, 0, none⟩) v := fun _ b' o' e => by injection e with e; injection e with e1 _; omega
          have hfarq : Far gq (some ⟨gv, 0, none⟩) v := fun _ b' o' e => by injection e with e; injection e with e1 _; omega
          go_wp2_with fail
          refine (subtract_any gu j (nb + 1) _ u _ cv v x _ HBD.out (by have := HL.out; omega) (by have := HL.out; omega) (by omega) HVL.out HVD.out hfar (by omega) HXX.out.1).mono ?_
          rintro e w4 ⟨u4, b4, rfl, hk4, hi4, hon4⟩
          have hfin4 := hi4.fin HVD.out.dig (by have := HVL.out; omega)
          have hb41 := hi4.2.2.2.1
          have hs4 := seg_lt hk4.2 j (nb + 1)
          have hW := seg_lt HB.out.2 j (nb + 1)
          have HK4 := Lib.hid hk4
          have HI4 := Lib.hid hi4
          have R4 : Hid (NR w4 (some ⟨gv, 0, none⟩) cv v) := HVD.out.only hfar hon4
          have Q4 : Hid (BlkN w4 gq q) := ⟨(hon4.block gq HQU.out).trans HBQ.out.1, HBQ.out.2⟩
          have bel4 : Below w.heap.size w w4 := (hbel.drew.drew).trans (hon4.below hgu)
          rcases (by omega : b4 = 0 ∨ b4 = 1) with rfl | rfl
          · obtain ⟨d1, d2, d3⟩ := digit_exact Vpos.out hW (by omega) hs4 hfin4 HXX.out.2.1 rfl
            have HS := Lib.hid (HP.out.step HK4.out.2 HXX.out.1 (by have := HLQ.out; omega) HI4.out.2.1 (by have := HL.out; omega) hVn.out HI4.out.2.2.2.2.2.1 d3 d2)
            have hcell := Q4.out.cell (i := j) (by have := HLQ.out; omega)
            have hfr := Q4.out.frozen j
            have HBS := Lib.hid (Q4.out.set j HXX.out.1)
            clear hk4 hi4 hfin4 hs4 hW d1 d2 d3 hon4
            go_wp2_with fail
            rw [Exit.noGoto_normal]
            go_wp2_with fail
            go_roundg j
            case measure => omega
            case rel => exact ⟨by omega, int_cong (by omega), u4, _, HS.out, by have := HI4.out.2.1; have := HL.out; unfold Hid; omega, by have := HLQ.out; simp [Hid, this], ⟨(Below.heap_setCell w4 ⟨gq, j, none⟩ _ gu (fun e => HQU.out e.symm)).trans HK4.out.1, HK4.out.2⟩, HBS.out, R4.out.only hfarq ((Only.refl gq w4).setCell j _), bel4.setCell (p := ⟨gq, j, none⟩) hgq0 _⟩
          · have hx1 : 1 ≤ x := by
              rcases Nat.eq_zero_or_pos x with h | h
              · subst h; omega
              · exact h
            clear hk4 hi4 hon4
            go_wp2_with fail
            refine (giveBack_any gu j (nb + 1) _ u4 _ cv v _ HK4.out (by have := HI4.out.2.1; have := HL.out; omega) (by have := HI4.out.2.1; have := HL.out; omega) (by omega) HVL.out R4.out hfar (by omega)).mono ?_
            rintro e w5 ⟨u5, b5, y5, rfl, hk5, hi5, hon5⟩
            have hfin5 := hi5.fin (by have := HVL.out; omega)
            have hs5 := seg_lt hk5.2 j (nb + 1)
            have hVM : val v < 4294967296 ^ (nb + 1) := Nat.lt_trans hVn.out (Nat.pow_lt_pow_right (by omega) (by omega))
            obtain ⟨d1, d2, d3⟩ := digit_back Vpos.out hVM hW hs4 hfin4 HXX.out.2.2 rfl hi5.2.2.1 hs5 hfin5
            have HK5 := Lib.hid hk5
            have HI5 := Lib.hid hi5
            have hx2 : x - 1 < 4294967296 := by have := HXX.out.1; omega
            have HS := Lib.hid (HP.out.step HK5.out.2 hx2 (by have := HLQ.out; omega) (HI5.out.2.1.trans HI4.out.2.1) (by have := HL.out; omega) hVn.out (fun p hp => (HI5.out.2.2.2.1 p hp).trans (HI4.out.2.2.2.2.2.1 p hp)) d3 d2)
            have R5 : Hid (NR w5 (some ⟨gv, 0, none⟩) cv v) := R4.out.only hfar hon5
            have Q5 : Hid (BlkN w5 gq q) := ⟨(hon5.block gq HQU.out).trans Q4.out.1, Q4.out.2⟩
            have bel5 : Below w.heap.size w w5 := bel4.trans (hon5.below hgu)
            have hcell := Q5.out.cell (i := j) (by have := HLQ.out; omega)
            have hfr := Q5.out.frozen j
            have HBS := Lib.hid (Q5.out.set j hx2)
            have ecx : Hid (((x - 1 : Nat) : Int) = (x : Int) - 1) := by unfold Hid; omega
            rw [ecx.out] at HBS
            clear hk5 hi5 hfin4 hfin5 hs4 hs5 hW d1 d2 d3 hon5 hVM hx2
            go_wp2_with fail
            rw [Exit.noGoto_normal]
            go_wp2_with fail
            go_roundg j
            case measure => omega
            case rel => exact ⟨by omega, int_cong (by omega), u5, _, HS.out, by have := HI5.out.2.1; have := HI4.out.2.1; have := HL.out; unfold Hid; omega, by have := HLQ.out; simp [Hid, this], ⟨(Below.heap_setCell w5 ⟨gq, j, none⟩ _ gu (fun e => HQU.out e.symm)).trans HK5.out.1, HK5.out.2⟩, HBS.out, R5.out.only hfarq ((Only.refl gq w5).setCell j _), bel5.setCell (p := ⟨gq, j, none⟩) hgq0 _⟩
      · obtain rfl : gk = 0 := by omega
        obtain ⟨hq, hr⟩ := HP.out.fin
        have HQV := Lib.hid hq
        have HRV := Lib.hid hr
        clear hq hr
        have nfq := HBQ.out.nf (B := w.heap.size) (c := nq) hgq0 (by have := HLQ.out; omega) (by omega) (by have := HLQ.out; omega)
        have nfu := HB.out.nf (B := w.heap.size) (c := na + 1) hgu (by have := HL.out; omega) (by omega) (by have := HL.out; omega)
        go_wp2_with fail
        refine (trim_any _ _ q _ HLQ.out nfq.1).mono ?_
        rintro e w4 ⟨rfl, rfl⟩
        go_wp2_with fail
        refine (trim_any _ _ u _ HL.out nfu.1).mono ?_
        rintro e w4 ⟨rfl, rfl⟩
        go_wp2_with fail
        refine (unshifted_any _ _ (digs (val u)) s _ rfl nfu.1.trim hs).mono ?_
        rintro e w5 ⟨R, cr, rfl, hR, hb5⟩
        go_wp2_with fail
        go_ret2
        have nfq5 := (nfq.trim).below hb5
        rw [val_digs] at hR
        obtain ⟨f1, f2⟩ := shift_div (val a) (val b) (2 ^ s) (Nat.two_pow_pos s)
        have g1 : val q = val a / val b := by rw [HQV.out, Ev.out, f1]
        have g2 : val u / 2 ^ s = val a % val b := by rw [HRV.out, Ev.out, f2]
        rw [g1] at nfq5
        rw [g2] at hR
        refine ⟨_, _, _, _, tuple_two (by rw [g1]; rfl) (by rw [val_digs, g2]; rfl), nfq5, hR.mono hbel.size, ?_, hbel.trans (hb5.mono hbel.size)⟩
        intro n1 n2 g o h p e1 e2
        obtain ⟨h', p', e3, hB, _⟩ := hR.2 n2
        rw [e2] at e3
        injection e1 with e1
        injection e1 with e1
        injection e3 with e3
        injection e3 with e3
        have := HBQ.out.lt
        omega
end Go.Proofs.YtchnaimpmegbkaaGreatDoor

/- A region that draws, in a round of a range over a function: from the plain calculus. -/
namespace Go.Proofs.YtchnaimpmegbkaaGreatDoor
open Go.RowKit Go.Shelf
set_option linter.unusedVariables false

def noDefer (o : Oper) : Bool := match o.op with | .defer _ => false | _ => true
theorem noDefer_of {ops : Array Oper} {i : Nat} {o : Oper} (h : ops.toList.all noDefer = true) (ho : ops[i]? = some o) : ∀ c, o.op ≠ .defer c := by
  intro c e
  have hm : o ∈ ops.toList := by
    rw [← Array.getElem?_toList] at ho
    exact List.mem_of_getElem? ho
  have := List.all_eq_true.1 h o hm
  simp [noDefer, e] at this
theorem rows_wide {n : Nat} {P : Program} {row : String} {args : Array Value} {w : World} {R : Value → World → Prop} (h : Rows P row args w R) : RowsIn Fence.wide n P row args w R := by
  intro c cs _
  obtain ⟨v, w', r, s⟩ := h c cs
  exact ⟨v, w', r, stepsIn_wide.2 s⟩
theorem any_round {P : Program} {F : Fence} {n l : Nat} {ops : Array Oper} {Q : Exit → Act → World → Prop} {md : Region.Mode}
    (hc : ∀ (f : FuncId) (args : Array Value) (w : World) (R : Ending → World → Prop) (n : Nat), Calls P f args w R → CallsIn F n P f args w R)
    (hr : ∀ (row : String) (args : Array Value) (w : World) (R : Value → World → Prop) (n : Nat), Rows P row args w R → RowsIn F n P row args w R)
    (hd : F.depth.isSome = true → 1 ≤ n) (hf : ∀ f, F.fn f) (hnd : ops.toList.all noDefer = true) (hQ : ¬ LetsOut Q) :
    ∀ (fuel : Nat) (listed : Array Bool) (a : Act) (w : World), wpAny P md ops Q fuel listed a w → wpAnyIn (F.inRound l) n P md ops Q fuel listed a w
  | 0, _, _, _, h => h
  | fuel + 1, listed, a, w, h => ⟨h.1, fun i hi => by
    have h2 := h.2 i hi
    unfold wpOp at h2
    unfold wpOpIn
    split
    · rename_i ho
      simp only [ho] at h2
      exact any_round hc hr hd hf hnd hQ fuel _ _ _ h2
    · rename_i o ho
      simp only [ho] at h2
      split
      · rename_i hw
        simp only [hw, if_true] at h2
        rcases h2 with h2 | h2
        · refine ⟨fun f _ => hf f, ?_⟩
          show o.uponIn _ n P a _ Q ((o.semAt (some l) a.eval).run P w)
          rw [Oper.semAt_some l a.eval o (noDefer_of hnd ho)]
          unfold Oper.wp at h2
          generalize (execOp a.eval o).run P w = r at *
          cases r with
          | ok x w' =>
            cases x <;> simp only [Oper.upon, Oper.uponIn] at h2 ⊢ <;>
              first
                | exact any_round hc hr hd hf hnd hQ fuel _ _ _ h2
                | exact ⟨hd, CallsIn.inRound l ((hc _ _ _ _ _ h2).mono (fun e w'' he => by cases e <;> first | exact any_round hc hr hd hf hnd hQ fuel _ _ _ he | exact he))⟩
                | exact ⟨hd, RowsIn.mono (hr _ _ _ _ _ h2) (fun _ _ he => any_round hc hr hd hf hnd hQ fuel _ _ _ he)⟩
                | exact h2.elim
          | halt x w' => cases x <;> simp only [Oper.upon, Oper.uponIn] at h2 ⊢ <;> first | exact h2 | exact h2.elim
        · exact absurd h2.2 hQ
      · rename_i hw
        simp only [hw] at h2
        exact ⟨fun f _ => hf f, any_round hc hr hd hf hnd hQ fuel _ _ _ h2⟩⟩
end Go.Proofs.YtchnaimpmegbkaaGreatDoor

/- parted, where the divisor has one digit; parted, whatever the numbers. -/
namespace Go.Proofs.YtchnaimpmegbkaaGreatDoor
open Go.RowKit Go.Shelf
set_option linter.unusedVariables false
attribute [local go_sem] Oper.semAt_some

/-- The rest and the quotient when the digits with these indexes have come. -/
def dvS (a : List Nat) (d : Nat) (is : List Nat) : Nat × List Nat :=
  is.foldl (fun s i => ((s.1 * 4294967296 + dg a i) % d, s.2.set i ((s.1 * 4294967296 + dg a i) / d))) (0, List.replicate a.length 0)
theorem dvS_nil (a : List Nat) (d : Nat) : dvS a d [] = (0, List.replicate a.length 0) := rfl
theorem dvS_snoc (a : List Nat) (d : Nat) (is : List Nat) (i : Nat) :
    dvS a d (is ++ [i]) = (((dvS a d is).1 * 4294967296 + dg a i) % d, (dvS a d is).2.set i (((dvS a d is).1 * 4294967296 + dg a i) / d)) := by
  simp [dvS, List.foldl_append]
theorem dvS_ok {a : List Nat} {d : Nat} (ha : Dig a) (hd : 0 < d) (is : List Nat) : (dvS a d is).1 < d ∧ Dig (dvS a d is).2 ∧ (dvS a d is).2.length = a.length := by
  suffices ∀ (is : List Nat) (s : Nat × List Nat), s.1 < d ∧ Dig s.2 ∧ s.2.length = a.length →
      (is.foldl (fun s i => ((s.1 * 4294967296 + dg a i) % d, s.2.set i ((s.1 * 4294967296 + dg a i) / d))) s).1 < d ∧ Dig (is.foldl (fun s i => ((s.1 * 4294967296 + dg a i) % d, s.2.set i ((s.1 * 4294967296 + dg a i) / d))) s).2 ∧
      (is.foldl (fun s i => ((s.1 * 4294967296 + dg a i) % d, s.2.set i ((s.1 * 4294967296 + dg a i) / d))) s).2.length = a.length from this is _ ⟨hd, Dig.replicate _, by simp⟩
  intro is
  induction is with
  | nil => exact fun s h => h
  | cons i is ih =>
    rintro s ⟨h1, h2, h3⟩
    refine ih _ ⟨Nat.mod_lt _ hd, h2.set i ?_, by simpa using h3⟩
    rw [Nat.div_lt_iff_lt_mul hd]
    have h4 := dg_lt ha i
    have h5 : (s.1 + 1) * 4294967296 ≤ d * 4294967296 := Nat.mul_le_mul_right _ h1
    rw [Nat.mul_comm 4294967296 d]
    omega
theorem dvS_back {a : List Nat} {d : Nat} (ha : Dig a) (hd : 0 < d) : ∀ k, k ≤ a.length → (dvS a d (backI a.length k)).1 = val (a.drop (a.length - k)) % d ∧ val ((dvS a d (backI a.length k)).2.drop (a.length - k)) = val (a.drop (a.length - k)) / d := by
  intro k
  induction k with
  | zero =>
    intro _
    have e : backI a.length 0 = [] := rfl
    rw [e, dvS_nil]
    simp [val, List.drop_of_length_le]
  | succ k ih =>
    intro hk
    obtain ⟨h1, h2⟩ := ih (by omega)
    obtain ⟨o1, o2, o3⟩ := dvS_ok ha hd (backI a.length k)
    rw [backI_succ, dvS_snoc]
    generalize dvS a d (backI a.length k) = s at *
    obtain ⟨i, hi⟩ : ∃ i, a.length - (k + 1) = i := ⟨_, rfl⟩
    have hi1 : a.length - 1 - k = i := by omega
    have hi2 : a.length - k = i + 1 := by omega
    rw [hi1, hi]
    rw [hi2] at h1 h2
    dsimp only
    rw [val_drop_succ a i, val_drop_succ (s.2.set i _) i, dg_set_same (by omega)]
    have e : val ((s.2.set i ((s.1 * 4294967296 + dg a i) / d)).drop (i + 1)) = val (s.2.drop (i + 1)) := val_ext fun p => by rw [dg_drop, dg_drop, dg_set_other (by omega)]
    rw [e, h2, h1]
    generalize val (a.drop (i + 1)) = X
    generalize dg a i = y
    have e1 : y + 4294967296 * X = (X % d * 4294967296 + y) + d * (4294967296 * (X / d)) := by
      have := Nat.div_add_mod X d
      have e2 : d * (4294967296 * (X / d)) = 4294967296 * (d * (X / d)) := by rw [Nat.mul_left_comm]
      omega
    rw [e1, Nat.add_mul_mod_self_left, Nat.add_mul_div_left _ _ hd]
    exact ⟨rfl, rfl⟩
theorem dvS_fin {a : List Nat} {d : Nat} (ha : Dig a) (hd : 0 < d) : (dvS a d (backI a.length a.length)).1 = val a % d ∧ val (dvS a d (backI a.length a.length)).2 = val a / d := by
  have := dvS_back ha hd a.length (Nat.le_refl _)
  simpa using this

theorem blk_kept {W W' : World} {row : Option Nat} {g : Nat} {l : List Nat} (h : BlkN W g l) (hg : W.grownBy W' row) (hrow : ∀ r, row = some r → ∃ o : Obj, W.heap[r]? = some o ∧ o.isCells = false) : BlkN W' g l :=
  ⟨(grownBy_keeps_cells hg hrow h.1 rfl).trans h.1, h.2⟩
theorem cell_far {W : World} {p a : Addr} {u v : Value} (h : a.block ≠ p.block) (hc : W.cell? a = some v) : (W.setCell p u).cell? a = some v := (World.cell?_of_block (Below.heap_setCell W p u a.block h)).trans hc
theorem frozen_far {W : World} {p a : Addr} {u : Value} (h : a.block ≠ p.block) {t : Bool} (hc : W.frozen? a = t) : (W.setCell p u).frozen? a = t := (World.frozen?_of_block (Below.heap_setCell W p u a.block h)).trans hc

set_option maxRecDepth 100000 in
set_option maxHeartbeats 4000000 in
theorem parted_one (A : Option Addr) (ca : Nat) (a : List Nat) (Bd : Option Addr) (cb : Nat) (b : List Nat) (w : World) (hb1 : b.length = 1) (ha : NR w A ca a) (hb : NR w Bd cb b) (ta : Trm a) (tb : Trm b) (hl : val b ≤ val a) (la : a.length ≤ 1048576) :
    Calls Tryz.prog 91 #[.slice A a.length ca, .slice Bd 1 cb] w fun e w' => PartOut w w' e (val a) (val b) := by
  obtain ⟨z, hz, HZ⟩ : ∃ z : Int, z = cmpN (val a) (val b) ∧ decide (z < 0) = false := ⟨_, rfl, by rcases cmpN_cases (val a) (val b) with ⟨h, e⟩ | ⟨h, e⟩ | ⟨h, e⟩ <;> (try rw [e]) <;> first | omega | rfl⟩
  have HZ0 := Lib.hid hz
  have hbel0 : Below w.heap.size w ((w.alloc (.cells #[.slice A a.length ca] 25)).alloc (.cells #[.slice Bd 1 cb] 25)) := ((Below.refl _ _).alloc (Nat.le_refl _) _).alloc (by simp) _
  have Ra := Lib.hid ha
  have Rb := Lib.hid hb
  have la2 : (a.length : Int) ≤ 1048576 := by omega
  have hmk := run_make_row' (P := Tryz.prog) 25 120 (.int .u32 0) 4 Tryz.underlying25 u32_info rfl .i64 .i64 a.length (by omega) (by omega)
  clear hz ha hb
  refine (callsIn_wide (n := 4)).1 ?_
  have conv : ∀ (f : FuncId) (args : Array Value) (W : World) (R : Ending → World → Prop) (n : Nat), Calls Tryz.prog f args W R → CallsIn Fence.wide n Tryz.prog f args W R := fun _ _ _ _ _ h => callsIn_wide.2 h
  have convR : ∀ (row : String) (args : Array Value) (W : World) (R : Value → World → Prop) (n : Nat), Rows Tryz.prog row args W R → RowsIn Fence.wide n Tryz.prog row args W R := fun _ _ _ _ _ h => rows_wide h
  have hro : Fence.wide.round = none := rfl
  have hfn : ∀ f, Fence.wide.fn f := fun _ => trivial
  generalize Fence.wide = F at *
  refine callsIn_of_wp_marks Tryz.func91 rfl (hfn _) ?_ hro
  simp only [Tryz.ntmps91, List.size_toArray, List.length_cons, List.length_nil, Nat.reduceAdd, Nat.reduceSub, Array.replicate_succ, Array.replicate_zero, List.push_toArray, List.append_toArray, List.nil_append, List.cons_append]
  gi_wp2_with fail
  refine (conv _ _ _ _ _ (order_any A ca a Bd cb b _ rfl hb1 (Ra.out.below hbel0) (Rb.out.below hbel0) ta tb)).mono ?_
  rintro e w1 ⟨rfl, hbel1⟩
  rw [← HZ0.out]
  have c2 : w1.cell? ⟨w.heap.size, 0, none⟩ = some (.slice A a.length ca) := (hbel1.cell (p := ⟨w.heap.size, 0, none⟩) (by simp <;> omega)).trans (by simp)
  have c3 : w1.cell? ⟨w.heap.size + 1, 0, none⟩ = some (.slice Bd 1 cb) := (hbel1.cell (p := ⟨w.heap.size + 1, 0, none⟩) (by simp <;> omega)).trans (by simp)
  have hs1 : w.heap.size + 1 < w1.heap.size := Nat.lt_of_lt_of_le (by simp) hbel1.size
  have hb3 : Below w1.heap.size w1 (((w1.alloc (.cells (madeCells #[Value.int .u32 0] a.length) 120)).alloc (.cells #[.slice (some ⟨w1.heap.size, 0, none⟩) a.length a.length] 25)).alloc (.cells #[.int .u32 0] 120)) :=
    (((Below.refl _ w1).alloc (Nat.le_refl _) _).alloc (by simp) _).alloc (by simp; omega) _
  have c2' := (hb3.cell (p := ⟨w.heap.size, 0, none⟩) (by show w.heap.size < w1.heap.size; omega)).trans c2
  gi_wp2_with (gi_at_call 87; refine (back_in F 3 (hfn _) hro _ _ _ _).mono ?_; rintro e w' ⟨rfl, rfl⟩)
  obtain ⟨WS, hWS⟩ : ∃ W : World, W = ((((w1.alloc (.cells (madeCells #[Value.int .u32 0] a.length) 120)).alloc (.cells #[.slice (some ⟨w1.heap.size, 0, none⟩) a.length a.length] 25)).alloc (.cells #[.int .u32 0] 120)).alloc (.cells #[.slice A a.length ca] 25)) := ⟨_, rfl⟩
  have hsz : WS.heap.size = w1.heap.size + 1 + 1 + 1 + 1 := by rw [hWS]; simp
  have hB4 : Below w1.heap.size w1 WS := by rw [hWS]; exact hb3.alloc (by simp; omega) _
  have hB0 : Below w.heap.size w WS := (hbel0.trans (hbel1.mono hbel0.size)).trans (hB4.mono (by omega))
  have f1 : WS.cell? ⟨w.heap.size, 0, none⟩ = some (.slice A a.length ca) := (hB4.cell (p := ⟨w.heap.size, 0, none⟩) (by show w.heap.size < w1.heap.size; omega)).trans c2
  have f2 : WS.cell? ⟨w.heap.size + 1, 0, none⟩ = some (.slice Bd 1 cb) := (hB4.cell (p := ⟨w.heap.size + 1, 0, none⟩) hs1).trans c3
  have f3 : WS.cell? ⟨w1.heap.size + 1, 0, none⟩ = some (.slice (some ⟨w1.heap.size, 0, none⟩) a.length a.length) := by
    have := Boxed.new (w1.alloc (.cells (madeCells #[Value.int .u32 0] a.length) 120)) 25 (.slice (some ⟨w1.heap.size, 0, none⟩) a.length a.length)
    rw [World.size_alloc] at this
    rw [hWS]; exact ((this.alloc _).alloc _).cell
  have bR : Boxed WS (w1.heap.size + 1 + 1) 120 (.int .u32 0) := by
    have := Boxed.new ((w1.alloc (.cells (madeCells #[Value.int .u32 0] a.length) 120)).alloc (.cells #[.slice (some ⟨w1.heap.size, 0, none⟩) a.length a.length] 25)) 120 (.int .u32 0)
    rw [World.size_alloc, World.size_alloc] at this
    rw [hWS]; exact this.alloc _
  have f6 : WS.cell? ⟨w1.heap.size + 1 + 1 + 1, 0, none⟩ = some (.slice A a.length ca) := by
    have := Boxed.new (((w1.alloc (.cells (madeCells #[Value.int .u32 0] a.length) 120)).alloc (.cells #[.slice (some ⟨w1.heap.size, 0, none⟩) a.length a.length] 25)).alloc (.cells #[.int .u32 0] 120)) 25 (.slice A a.length ca)
    rw [World.size_alloc, World.size_alloc, World.size_alloc] at this
    rw [hWS]; exact this.cell
  have f5 : BlkN WS w1.heap.size (List.replicate a.length 0) := by rw [hWS]; exact (((BlkN.made w1 a.length).alloc _).alloc _).alloc _
  rw [← hWS]
  have hd : Hid (0 < dg b 0 ∧ val b = dg b 0) := by
    have e : val b = dg b 0 := by
      have := val_take_succ b 0
      rw [List.take_of_length_le (by omega)] at this
      simpa [val] using this
    exact ⟨by have := val_pos tb (by intro e; rw [e] at hb1; simp at hb1); omega, e⟩
  refine wpIn_rangeFunc_ownG hro (by omega) (gf := 109) (lb := #[.pointer (some ⟨w1.heap.size + 1 + 1 + 1, 0, none⟩)]) rfl (hfn _) (enters_of Tryz.func109 (by kernel_rfl) rfl)
    (back_stops F 3 (hfn _) hro (by omega) (w1.heap.size + 1 + 1 + 1) w A ca a Ra.out WS hB0 (by omega) f6) KB.trans (KB.put (by omega) (by omega)) (Below.refl _ _) (fun _ => rfl)
    (fun pre W => ((W.cell? ⟨w.heap.size, 0, none⟩ = some (.slice A a.length ca)) ∧ W.cell? ⟨w.heap.size + 1, 0, none⟩ = some (.slice Bd 1 cb) ∧ W.cell? ⟨w1.heap.size + 1, 0, none⟩ = some (.slice (some ⟨w1.heap.size, 0, none⟩) a.length a.length) ∧
      W.cell? ⟨w1.heap.size + 1 + 1, 0, none⟩ = some (.int .u32 ((dvS a (dg b 0) (pre.map Fin.val)).1 : Nat)) ∧ W.frozen? ⟨w1.heap.size + 1 + 1, 0, none⟩ = false ∧ BlkN W w1.heap.size (dvS a (dg b 0) (pre.map Fin.val)).2) ∧ Below w.heap.size w W)
    (fun c pre W => False)
    ?hI ?hIx ?h0
    (fun x => { tmps := #[.slice A a.length ca, .slice Bd 1 cb, .pointer (some ⟨w.heap.size, 0, none⟩), .pointer (some ⟨w.heap.size + 1, 0, none⟩), .slice none 0 0, .slice none 0 0, .pointer (some ⟨w1.heap.size + 1, 0, none⟩), .pointer (some ⟨w1.heap.size + 1 + 1, 0, none⟩), .int .i64 (x.1 : Int), undef, undef, undef, undef, undef, undef, undef, undef, undef, undef, undef, .slice A a.length ca, .slice Bd 1 cb, .int .i64 z, .bool false, undef, undef, .slice Bd 1 cb, .int .i64 1, .bool true, .slice A a.length ca, .int .i64 (a.length : Int), .slice (some ⟨w1.heap.size, 0, none⟩) a.length a.length, .slice A a.length ca, .func (.func 109) #[] #[.pointer (some ⟨w1.heap.size + 1 + 1 + 1, 0, none⟩)], .int .i64 (x.1 : Int), .int .u32 (dg a x.1 : Int), undef, undef, undef, undef, undef, undef, undef, undef, undef, undef, undef, undef, undef, undef, undef, undef, undef, undef, undef, undef, undef, undef, undef, undef, undef, undef, undef, undef, undef, undef, undef, undef, undef, undef, undef, undef, undef, undef, undef, undef, undef, undef, undef, undef, undef, undef, undef, undef, undef, undef, undef, undef, undef, undef, undef, undef, undef, undef, undef, undef, undef, undef, undef, undef, undef, undef, undef, undef, undef, undef, undef, undef, undef, undef, undef, undef, undef, undef, undef, undef, undef, undef, undef, undef, undef, undef, undef, undef, undef, undef, undef, undef, undef, undef, undef, undef, undef, undef, undef, undef, undef, undef, undef, undef, undef, undef, undef, undef, undef, undef, undef, undef, undef, undef, undef, undef, undef, undef, undef, undef, undef, undef, undef, undef, undef, undef, undef, undef, undef, undef, undef, undef, undef, undef, undef, undef, undef, undef], defers := [] }) ?assign ?body ?done ?stop
  case hI => exact OwnFrom.and (Own.from (fun s A B row hs hg hr => ⟨cell_kept hs.1 hg hr, cell_kept hs.2.1 hg hr, cell_kept hs.2.2.1 hg hr, cell_kept hs.2.2.2.1 hg hr, (frozen_kept hs.2.2.2.1 hg hr).trans hs.2.2.2.2.1, blk_kept hs.2.2.2.2.2 hg hr⟩) _) (ownFrom_below (Nat.le_refl _) (by omega))
  case hIx => exact fun c s W W' row hs hg hr => hs.elim
  case h0 => exact ⟨⟨f1, f2, f3, bR.cell, bR.frozen, f5⟩, hB0⟩
  case assign =>
    intro l x W K hK
    gi_wp2
    exact hK
  case body =>
    rintro l pre x W ⟨⟨g1, g2, g3, g4, g5, g6⟩, hB⟩ _
    obtain ⟨o1, o2, o3⟩ := dvS_ok (a := a) Ra.out.dig hd.out.1 (pre.map Fin.val)
    have hsn : Hid (dvS a (dg b 0) ((pre ++ [x]).map Fin.val) = (((dvS a (dg b 0) (pre.map Fin.val)).1 * 4294967296 + dg a x.1) % dg b 0, (dvS a (dg b 0) (pre.map Fin.val)).2.set x.1 (((dvS a (dg b 0) (pre.map Fin.val)).1 * 4294967296 + dg a x.1) / dg b 0))) := by
      unfold Hid
      rw [List.map_append]
      exact dvS_snoc _ _ _ _
    generalize dvS a (dg b 0) (pre.map Fin.val) = sq at *
    obtain ⟨s, q⟩ := sq
    dsimp only at o1 o2 o3 hsn g4 g6
    obtain ⟨ba, oa, rfl, hba, hca0⟩ := Ra.out.at_ (i := x.1) x.2
    obtain ⟨bb, ob, rfl, hbb, hcb0⟩ := Rb.out.at_ (i := 0) (by omega)
    have hca : W.cell? ⟨ba, oa + x.1, none⟩ = some (.int .u32 (dg a x.1 : Nat)) := (hB.cell (p := ⟨ba, _, none⟩) hba).trans hca0
    have hcb : W.cell? ⟨bb, ob, none⟩ = some (.int .u32 (dg b 0 : Nat)) := (hB.cell (p := ⟨bb, _, none⟩) hbb).trans hcb0
    clear hca0 hcb0
    have k1 := Lib.hid (dg_lt Ra.out.dig x.1)
    have k2 := Lib.hid (dg_lt Rb.out.dig 0)
    have HO1 := Lib.hid o1
    have hq : (s * 4294967296 + dg a x.1) / dg b 0 < 4294967296 := by
      rw [Nat.div_lt_iff_lt_mul hd.out.1]
      have h5 : (s + 1) * 4294967296 ≤ dg b 0 * 4294967296 := Nat.mul_le_mul_right _ o1
      have := k1.out
      rw [Nat.mul_comm 4294967296 (dg b 0)]
      omega
    obtain ⟨X, hX⟩ : ∃ X, (s * 4294967296 + dg a x.1) / dg b 0 = X := ⟨_, rfl⟩
    obtain ⟨Y, hY⟩ : ∃ Y, (s * 4294967296 + dg a x.1) % dg b 0 = Y := ⟨_, rfl⟩
    have hdiv : ∀ W, Calls Tryz.prog 112 #[.int .u32 (s : Nat), .int .u32 (dg a x.1 : Nat), .int .u32 (dg b 0 : Nat)] W fun e w' => e = .returned (.tuple #[.int .u32 (X : Nat), .int .u32 (Y : Nat)]) ∧ W.drew = w' := fun W => by
      rw [← hX, ← hY]
      exact Div32_any s (dg a x.1) (dg b 0) W k1.out k2.out HO1.out rfl rfl rfl
    rw [hX, hY] at hsn
    rw [hX] at hq
    clear hX hY
    have hcell := g6.cell (i := x.1) (by rw [o3]; exact x.2)
    have hfr := g6.frozen x.1
    have HBS := Lib.hid (g6.set x.1 hq)
    have hxl : (x.1 : Int) < a.length := by have := x.2; omega
    have hxl2 : x.1 < a.length := x.2
    have hmix : Tryz.prog.follows .mixedOrders = true := by kernel_rfl
    clear o1 o2 hq
    gi_wp2_with fail
    have hS0 : (fun w' : World => w'.cell? ⟨w.heap.size, 0, none⟩ = some (.slice (some ⟨ba, oa, none⟩) a.length ca) ∧ w'.cell? ⟨w.heap.size + 1, 0, none⟩ = some (.slice (some ⟨bb, ob, none⟩) 1 cb) ∧ w'.cell? ⟨w1.heap.size + 1, 0, none⟩ = some (.slice (some ⟨w1.heap.size, 0, none⟩) a.length a.length) ∧
      w'.cell? ⟨ba, oa + x.1, none⟩ = some (.int .u32 (dg a x.1 : Nat)) ∧ w'.cell? ⟨bb, ob, none⟩ = some (.int .u32 (dg b 0 : Nat))) W.drew := ⟨g1, g2, g3, hca, hcb⟩
    refine wpIn_region_any hmix (any_round conv convR (fun _ => by omega) hfn (by kernel_rfl) (fun ⟨_, _, h⟩ => h) _ _ _ _ (wpAny_of_held (S := fun w' : World => w'.cell? ⟨w.heap.size, 0, none⟩ = some (.slice (some ⟨ba, oa, none⟩) a.length ca) ∧ w'.cell? ⟨w.heap.size + 1, 0, none⟩ = some (.slice (some ⟨bb, ob, none⟩) 1 cb) ∧ w'.cell? ⟨w1.heap.size + 1, 0, none⟩ = some (.slice (some ⟨w1.heap.size, 0, none⟩) a.length a.length) ∧
      w'.cell? ⟨ba, oa + x.1, none⟩ = some (.int .u32 (dg a x.1 : Nat)) ∧ w'.cell? ⟨bb, ob, none⟩ = some (.int .u32 (dg b 0 : Nat))) _ _ _ _ ?_))
    refine wpAnyH_take (i := 0) (oi := _) (v := ?_) rfl (by kernel_rfl) (by kernel_rfl) (by kernel_rfl) (fun _ _ _ h => h) (Or.inl ⟨by rfl, ?_⟩) (by assumption) ?_
    rotate_left
    · intro w hSw; (try dsimp only at hSw); go_simp <;> with_reducible rfl
    try simp only [Act.put, List.setIfInBounds_toArray]
    refine wpAnyH_take (i := 1) (oi := _) (v := ?_) rfl (by kernel_rfl) (by kernel_rfl) (by kernel_rfl) (fun _ _ _ h => h) (Or.inl ⟨by rfl, ?_⟩) (by assumption) ?_
    rotate_left
    · intro w hSw; (try dsimp only at hSw); go_simp <;> with_reducible rfl
    try simp only [Act.put]
    refine wpAnyH_take (i := 3) (oi := _) (v := ?_) rfl (by kernel_rfl) (by kernel_rfl) (by kernel_rfl) (fun _ _ _ h => h) (Or.inl ⟨by rfl, ?_⟩) (by assumption) ?_
    rotate_left
    · intro w hSw; (try dsimp only at hSw); go_simp <;> with_reducible rfl
    try simp only [Act.put]
    refine wpAnyH_take (i := 4) (oi := _) (v := ?_) rfl (by kernel_rfl) (by kernel_rfl) (by kernel_rfl) (fun _ _ _ h => h) (Or.inl ⟨by rfl, ?_⟩) (by assumption) ?_
    rotate_left
    · intro w hSw; (try dsimp only at hSw); go_simp <;> with_reducible rfl
    try simp only [Act.put]
    refine wpAnyH_take (i := 5) (oi := _) (v := ?_) rfl (by kernel_rfl) (by kernel_rfl) (by kernel_rfl) (fun _ _ _ h => h) (Or.inl ⟨by rfl, ?_⟩) (by assumption) ?_
    rotate_left
    · intro w hSw; (try dsimp only at hSw); go_simp <;> with_reducible rfl
    try simp only [Act.put]
    refine wpAnyH_take (i := 6) (oi := _) (v := ?_) rfl (by kernel_rfl) (by kernel_rfl) (by kernel_rfl) (fun _ _ _ h => h) (Or.inl ⟨by rfl, ?_⟩) (by assumption) ?_
    rotate_left
    · intro w hSw; (try dsimp only at hSw); go_simp <;> with_reducible rfl
    try simp only [Act.put]
    refine wpAnyH_take (i := 7) (oi := _) (v := ?_) rfl (by kernel_rfl) (by kernel_rfl) (by kernel_rfl) (fun _ _ _ h => h) (Or.inl ⟨by rfl, ?_⟩) (by assumption) ?_
    rotate_left
    · intro w hSw; (try dsimp only at hSw); go_simp <;> with_reducible rfl
    try simp only [Act.put]
    refine wpAnyH_take (i := 8) (oi := _) (v := ?_) rfl (by kernel_rfl) (by kernel_rfl) (by kernel_rfl) (fun _ _ _ h => h) (Or.inl ⟨by rfl, ?_⟩) (by assumption) ?_
    rotate_left
    · intro w hSw; (try dsimp only at hSw); go_simp <;> with_reducible rfl
    try simp only [Act.put]
    refine wpAnyH_take (i := 9) (oi := _) (v := ?_) rfl (by kernel_rfl) (by kernel_rfl) (by kernel_rfl) (fun _ _ _ h => h) (Or.inl ⟨by rfl, ?_⟩) (by assumption) ?_
    rotate_left
    · intro w hSw; (try dsimp only at hSw); go_simp <;> with_reducible rfl
    try simp only [Act.put]
    refine wpAnyH_ready (rs := [2]) (by kernel_rfl) (by simp) ?_
    refine AllReadyH.cons (o := _) rfl (fun K hK => ?_) AllReadyH.nil
    go_simp
    refine hK.out _ _ hS0 (fun hHeld => ?_)
    clear hK K
    try simp only [Act.put, List.setIfInBounds_toArray, List.set_cons_zero, List.set_cons_succ]
    refine wpAnyH_ready (rs := [10]) (by kernel_rfl) (by simp) ?_
    refine AllReadyH.cons (o := _) rfl (fun K hK => ?_) AllReadyH.nil
    go_simp
    refine (hdiv _).mono ?_
    rintro e w' ⟨rfl, rfl⟩
    dsimp only
    refine hK.out _ _ hS0 (fun hHeld => ?_)
    clear hK K
    try simp only [Act.put, List.setIfInBounds_toArray, List.set_cons_zero, List.set_cons_succ]
    refine wpAnyH_take (i := 11) (oi := _) (v := ?_) rfl (by kernel_rfl) (by kernel_rfl) (by kernel_rfl) (fun _ _ _ h => h) (Or.inl ⟨by rfl, ?_⟩) (by assumption) ?_
    rotate_left
    · intro w hSw; (try dsimp only at hSw); go_simp <;> with_reducible rfl
    try simp only [Act.put, List.setIfInBounds_toArray]
    refine wpAnyH_take (i := 12) (oi := _) (v := ?_) rfl (by kernel_rfl) (by kernel_rfl) (by kernel_rfl) (fun _ _ _ h => h) (Or.inl ⟨by rfl, ?_⟩) (by assumption) ?_
    rotate_left
    · intro w hSw; (try dsimp only at hSw); go_simp <;> with_reducible rfl
    try simp only [Act.put]
    refine wpAnyH_take (i := 13) (oi := _) (v := ?_) rfl (by kernel_rfl) (by kernel_rfl) (by kernel_rfl) (fun _ _ _ h => h) (Or.inl ⟨by rfl, ?_⟩) (by assumption) ?_
    rotate_left
    · intro w hSw; (try dsimp only at hSw); go_simp <;> with_reducible rfl
    try simp only [Act.put]
    refine wpAnyH_take (i := 14) (oi := _) (v := ?_) rfl (by kernel_rfl) (by kernel_rfl) (by kernel_rfl) (fun _ _ _ h => h) (Or.inl ⟨by rfl, ?_⟩) (by assumption) ?_
    rotate_left
    · intro w hSw; (try dsimp only at hSw); go_simp <;> with_reducible rfl
    try simp only [Act.put]
    refine wpAnyH_ready (rs := [15]) (by kernel_rfl) (by simp) ?_
    refine AllReadyH.cons (o := _) rfl (fun K hK => ?_) AllReadyH.nil
    go_simp
    have n1 : ba ≠ w1.heap.size := by omega
    have n2 : bb ≠ w1.heap.size := by omega
    have n1' : ba ≠ w1.heap.size + 1 + 1 := by omega
    have n2' : bb ≠ w1.heap.size + 1 + 1 := by omega
    have r4 : (W.setCell ⟨w1.heap.size, x.1, none⟩ (.int .u32 (X : Nat))).cell? ⟨w1.heap.size + 1 + 1, 0, none⟩ = some (.int .u32 (s : Nat)) := cell_far (by simp <;> omega) g4
    have r5 : (W.setCell ⟨w1.heap.size, x.1, none⟩ (.int .u32 (X : Nat))).frozen? ⟨w1.heap.size + 1 + 1, 0, none⟩ = false := frozen_far (by simp <;> omega) g5
    refine hK.out _ _ ⟨cell_far (by simp <;> omega) g1, cell_far (by simp <;> omega) g2, cell_far (by simp <;> omega) g3, cell_far n1 hca, cell_far n2 hcb⟩ (fun hHeld => ?_)
    clear hK K
    try simp only [Act.put, List.setIfInBounds_toArray, List.set_cons_zero, List.set_cons_succ]
    refine wpAnyH_ready (rs := [16]) (by kernel_rfl) (by simp) ?_
    refine AllReadyH.cons (o := _) rfl (fun K hK => ?_) AllReadyH.nil
    go_simp
    refine hK.out _ _ ⟨cell_far (by simp <;> omega) (cell_far (by simp <;> omega) g1), cell_far (by simp <;> omega) (cell_far (by simp <;> omega) g2), cell_far (by simp <;> omega) (cell_far (by simp <;> omega) g3), cell_far n1' (cell_far n1 hca), cell_far n2' (cell_far n2 hcb)⟩ (fun hHeld => ?_)
    clear hK K
    refine wpAnyH_done (by kernel_rfl) ?_ _
    have kf := ((KeepsOthers.setCell W ⟨w1.heap.size, x.1, none⟩ (.int .u32 (X : Nat))).from WS.heap.size).trans ((KeepsOthers.setCell (W.setCell ⟨w1.heap.size, x.1, none⟩ (.int .u32 (X : Nat))) ⟨w1.heap.size + 1 + 1, 0, none⟩ (.int .u32 (Y : Nat))).from WS.heap.size)
    have kw : Below w.heap.size W ((W.setCell ⟨w1.heap.size, x.1, none⟩ (.int .u32 (X : Nat))).setCell ⟨w1.heap.size + 1 + 1, 0, none⟩ (.int .u32 (Y : Nat))) := ((Below.refl _ _).setCell (p := ⟨w1.heap.size, x.1, none⟩) (by show w.heap.size ≤ w1.heap.size; omega) _).setCell (p := ⟨w1.heap.size + 1 + 1, 0, none⟩) (by show w.heap.size ≤ w1.heap.size + 1 + 1; omega) _
    refine ⟨⟨kf.1, kf.2⟩, ⟨kw.drew.drew, ?_⟩, ⟨?_, ?_, ?_, ?_, ?_, ?_⟩, (hB.trans kw).drew.drew⟩
    · exact (Below.heap_setCell _ ⟨w1.heap.size + 1 + 1, 0, none⟩ _ _ (by simp)).trans (Below.heap_setCell _ ⟨w1.heap.size, x.1, none⟩ _ _ (by simp <;> omega))
    · exact cell_far (by simp <;> omega) (cell_far (by simp <;> omega) g1)
    · exact cell_far (by simp <;> omega) (cell_far (by simp <;> omega) g2)
    · exact cell_far (by simp <;> omega) (cell_far (by simp <;> omega) g3)
    · rw [hsn.out]
      exact World.cell?_setCell_same' _ _ _ (by rw [r4]; rfl)
    · exact (World.frozen?_setCell ..).trans r5
    · rw [hsn.out]
      exact HBS.out.far (p := ⟨w1.heap.size + 1 + 1, 0, none⟩) (by simp <;> omega) _
  case done =>
    rintro D ys W hD hys ⟨⟨g1, g2, g3, g4, g5, g6⟩, hB⟩ hK
    obtain ⟨o1, o2, o3⟩ := dvS_ok (a := a) Ra.out.dig hd.out.1 (ys.map Fin.val)
    have hfin := dvS_fin (a := a) Ra.out.dig hd.out.1
    rw [← hys] at hfin
    generalize dvS a (dg b 0) (ys.map Fin.val) = sq at *
    obtain ⟨s, q⟩ := sq
    dsimp only at o1 o2 o3 hfin g4 g6
    have HFIN := Lib.hid hfin
    have hs32 : s < 4294967296 := Nat.lt_trans o1 (dg_lt Rb.out.dig 0)
    have HQ := Lib.hid (g6.nf (B := w.heap.size) (c := a.length) (by omega) (by omega) (by omega) (by omega))
    have HS1 := Lib.hid hs32
    have HL := Lib.hid o3
    have H6 := Lib.hid g6
    clear hfin hs32 o1 o2 o3 g6 hys
    have T1 : Hid (∀ W', NR W' (some ⟨w1.heap.size, 0, none⟩) a.length q → CallsIn F 3 Tryz.prog 59 #[.slice (some ⟨w1.heap.size, 0, none⟩) a.length a.length] W' fun e w' => e = .returned (.slice (some ⟨w1.heap.size, 0, none⟩) (digs (val q)).length a.length) ∧ W' = w') := fun W' h => conv _ _ _ _ _ (trim_any _ a.length q W' HL.out h)
    have T2 : Hid (∀ W' A', NR W' A' 1 [s] → CallsIn F 3 Tryz.prog 59 #[.slice A' 1 1] W' fun e w' => e = .returned (.slice A' (digs (val [s])).length 1) ∧ W' = w') := fun W' A' h => conv _ _ _ _ _ (trim_any A' 1 [s] W' rfl h)
    have g3a : ∀ u, (W.alloc (.cells #[u] 120)).cell? ⟨w1.heap.size + 1, 0, none⟩ = some (.slice (some ⟨w1.heap.size, 0, none⟩) a.length a.length) := fun u => (World.cell?_of_block (a := ⟨w1.heap.size + 1, 0, none⟩) (Below.heap_alloc W _ _ (World.block_lt_of_cell? W _ g3))).trans g3
    have g3b : ∀ u, (W.drew.alloc (.cells #[u] 120)).cell? ⟨w1.heap.size + 1, 0, none⟩ = some (.slice (some ⟨w1.heap.size, 0, none⟩) a.length a.length) := g3a
    gi_wp2_with fail
    gi_region_with (first | (gi_at_call 59; (with_reducible refine (T1.out _ ?_).mono ?_); (first | exact HQ.out.1.drew | exact HQ.out.1.drew.alloc _); rintro e w' ⟨rfl, rfl⟩) | (gi_at_call 59; (with_reducible refine (T2.out _ _ ?_).mono ?_); exact ((BlkN.lit1 _ s HS1.out).nf (B := 0) (Nat.zero_le _) (by simp) (by simp) (by simp)).1; rintro e w' ⟨rfl, rfl⟩))
    all_goals
      gi_wp2_with fail
      have hD2 : D < W.heap.size := (Array.getElem?_eq_some_iff.1 hK).1
      have hK' := (Below.heap_alloc W.drew (.cells #[.int .u32 (s : Nat)] 120) D hD2).trans hK
      have kq := blk_kept ((H6.out.drew).alloc (.cells #[.int .u32 (s : Nat)] 120)) (grownBy_putObj' _ D (.deferred none)) (fun r e => by cases e; exact ⟨_, hK', rfl⟩)
      have ks := blk_kept (BlkN.lit1 W.drew s HS1.out) (grownBy_putObj' _ D (.deferred none)) (fun r e => by cases e; exact ⟨_, hK', rfl⟩)
      have nq := kq.nf (B := w.heap.size) (c := a.length) (by omega) (by have := HL.out; omega) (by omega) (by have := HL.out; omega)
      have ns := ks.nf (B := w.heap.size) (c := 1) (by have := hB.size; exact this) (by simp) (by simp) (by simp)
      have nq2 := nq.trim
      have ns2 := ns.trim
      have vs : val [s] = val a % val b := by rw [hd.out.2, ← HFIN.out.1]; simp [val]
      have vq : val q = val a / val b := by rw [hd.out.2, HFIN.out.2]
      rw [vs] at ns2
      rw [vq] at nq2
      have hbelF : Below w.heap.size w ((W.drew.alloc (.cells #[.int .u32 (s : Nat)] 120)).putObj D (.deferred none)) := ((hB.drew).alloc (by exact hB.size) _).trans (belowK_b (w := w) (Nat.le_refl _) _ D _ _ (by have := hB0.size; omega) hK' rfl rfl)
      have HVQ := Lib.hid vq
      have HVS := Lib.hid vs
      have hlt1 : w1.heap.size < W.heap.size := H6.out.lt
      clear vq vs nq ns kq ks
      refine ⟨by simp, .inl ⟨_, _, rfl, run_takeDeferred hK', ?_⟩⟩
      refine ⟨.tuple #[.slice (some ⟨w1.heap.size, 0, none⟩) (digs (val q)).length a.length, .slice (some ⟨W.heap.size, 0, none⟩) (digs (val [s])).length 1], ?_, some ⟨w1.heap.size, 0, none⟩, a.length, some ⟨W.heap.size, 0, none⟩, 1, tuple_two (by rw [HVQ.out]) (by rw [HVS.out]), nq2, ns2, ?_, hbelF⟩
      · simp [results, Tryz.f91, go_sem]
      · intro n1 n2 g o h p e1 e2
        injection e1 with e1
        injection e1 with e1
        injection e2 with e2
        injection e2 with e2
        omega
  case stop =>
    rintro D c pre W hD hp h hK
    exact h.elim
end Go.Proofs.YtchnaimpmegbkaaGreatDoor

/- Division bit by bit: plain laws. No program in sight. -/
namespace Go.Proofs.YtchnaimpmegbkaaGreatDoor
open Go.RowKit
set_option linter.unusedVariables false

theorem pow_two_32 (k : Nat) : (2 : Nat) ^ (32 * k) = 4294967296 ^ k := by rw [Nat.pow_mul]
theorem pow_two_cut (i : Nat) : (2 : Nat) ^ i = 4294967296 ^ (i / 32) * 2 ^ (i % 32) := by
  rw [← pow_two_32, ← Nat.pow_add, Nat.div_add_mod]
theorem dg_is {l : List Nat} (h : Dig l) (k : Nat) : dg l k = val l / 4294967296 ^ k % 4294967296 := by
  rw [val_div_pow h, val_drop_succ]
  have := dg_lt h k
  omega
theorem bit_digit {l : List Nat} (h : Dig l) (i : Nat) : dg l (i / 32) / 2 ^ (i % 32) % 2 = val l / 2 ^ i % 2 := by
  obtain ⟨t, h1, _, h3, h4⟩ := pow_split (s := i % 32) (by omega)
  have ht : t ≠ 0 := by intro e; rw [e] at h3; simp at h3
  obtain ⟨u, rfl⟩ : ∃ u, t = u + 1 := ⟨t - 1, by omega⟩
  rw [pow_two_cut i, ← Nat.div_div_eq_div_mul, val_div_pow h, val_drop_succ]
  generalize val (l.drop (i / 32 + 1)) = R
  generalize dg l (i / 32) = d
  generalize 2 ^ (i % 32) = p at *
  have e : 4294967296 * R = p * (2 * (2 ^ u * R)) := by rw [← h1, Nat.pow_succ]; simp only [Nat.mul_left_comm, Nat.mul_comm]
  rw [e, Nat.add_mul_div_left _ _ (by omega), Nat.add_mul_mod_self_left]
theorem val_set_add {l : List Nat} {k y : Nat} (h : k < l.length) : val (l.set k (dg l k + y)) = val l + 4294967296 ^ k * y := by
  have h1 := val_cut (l.set k (dg l k + y)) (k + 1)
  have h2 := val_cut l (k + 1)
  have h3 : val ((l.set k (dg l k + y)).drop (k + 1)) = val (l.drop (k + 1)) := val_ext fun p => by rw [dg_drop, dg_drop, dg_set_other (by omega)]
  rw [val_set h, h3] at h1
  rw [val_take_succ] at h2
  rw [h1, h2, Nat.mul_add]
  omega

/-- The state when the bits from i on are behind us. -/
def BitI (X V : Nat) (q : List Nat) (r i : Nat) : Prop := Dig q ∧ val q = X / 2 ^ i / V * 2 ^ i ∧ r = X / 2 ^ i % V
theorem BitI.start {X V n r i : Nat} (hr : r = X / 2 ^ i) (h : r < V) : BitI X V (List.replicate n 0) r i :=
  ⟨Dig.replicate _, by rw [val_replicate, ← hr, Nat.div_eq_of_lt h, Nat.zero_mul], by rw [← hr, Nat.mod_eq_of_lt h]⟩
theorem BitI.lt {X V r i : Nat} {q : List Nat} (h : BitI X V q r i) (hV : 0 < V) : r < V := by rw [h.2.2]; exact Nat.mod_lt _ hV
theorem bit_next (X V i : Nat) (hV : 0 < V) :
    (2 * (X / 2 ^ (i + 1) % V) + X / 2 ^ i % 2 < V → X / 2 ^ i / V = 2 * (X / 2 ^ (i + 1) / V) ∧ X / 2 ^ i % V = 2 * (X / 2 ^ (i + 1) % V) + X / 2 ^ i % 2) ∧
    (V ≤ 2 * (X / 2 ^ (i + 1) % V) + X / 2 ^ i % 2 → X / 2 ^ i / V = 2 * (X / 2 ^ (i + 1) / V) + 1 ∧ X / 2 ^ i % V = 2 * (X / 2 ^ (i + 1) % V) + X / 2 ^ i % 2 - V) := by
  have e : X / 2 ^ (i + 1) = X / 2 ^ i / 2 := by rw [Nat.pow_succ, Nat.div_div_eq_div_mul]
  rw [e]
  generalize X / 2 ^ i = Z
  have h1 := Nat.div_add_mod (Z / 2) V
  have h2 := Nat.mod_lt (Z / 2) hV
  generalize Z / 2 / V = m at *
  generalize Z / 2 % V = r at *
  have hZ : Z = V * (2 * m) + (2 * r + Z % 2) := by rw [Nat.mul_left_comm]; omega
  refine ⟨fun h => ?_, fun h => ?_⟩
  · generalize hy : 2 * r + Z % 2 = y at *
    rw [hZ, Nat.mul_add_div hV, Nat.mul_add_mod, Nat.div_eq_of_lt h, Nat.mod_eq_of_lt h]
    exact ⟨rfl, rfl⟩
  · have h3 : 2 * r + Z % 2 = V * 1 + (2 * r + Z % 2 - V) := by omega
    have h4 : 2 * r + Z % 2 - V < V := by omega
    generalize hy : 2 * r + Z % 2 - V = y at *
    rw [hZ, h3, ← Nat.add_assoc, ← Nat.mul_add, Nat.mul_add_div hV, Nat.mul_add_mod, Nat.div_eq_of_lt h4, Nat.mod_eq_of_lt h4]
    exact ⟨rfl, rfl⟩
theorem BitI.low {X V r i : Nat} {q : List Nat} (h : BitI X V q r (i + 1)) (hV : 0 < V) (hy : 2 * r + X / 2 ^ i % 2 < V) : BitI X V q (2 * r + X / 2 ^ i % 2) i := by
  obtain ⟨h1, h2, h3⟩ := h
  rw [h3] at hy ⊢
  obtain ⟨e1, e2⟩ := (bit_next X V i hV).1 hy
  refine ⟨h1, ?_, e2.symm⟩
  rw [h2, e1, Nat.pow_succ, Nat.mul_comm 2, Nat.mul_assoc, Nat.mul_comm 2]
theorem BitI.room {X V r i : Nat} {q : List Nat} (h : BitI X V q r (i + 1)) : dg q (i / 32) + 2 ^ (i % 32) < 4294967296 := by
  obtain ⟨h1, h2, h3⟩ := h
  rw [dg_is h1, h2]
  obtain ⟨t, g1, _, g3, g4⟩ := pow_split (s := i % 32) (by omega)
  have ht : t ≠ 0 := by intro e; rw [e] at g3; simp at g3
  obtain ⟨u, rfl⟩ : ∃ u, t = u + 1 := ⟨t - 1, by omega⟩
  generalize X / 2 ^ (i + 1) / V = M
  rw [Nat.pow_succ, pow_two_cut i]
  generalize 2 ^ (i % 32) = p at *
  have hB : 0 < 4294967296 ^ (i / 32) := Nat.pow_pos (by omega)
  have e : M * (4294967296 ^ (i / 32) * p * 2) = 4294967296 ^ (i / 32) * (p * 2 * M) := by simp only [Nat.mul_assoc, Nat.mul_left_comm, Nat.mul_comm]
  rw [e, Nat.mul_div_cancel_left _ hB]
  have e2 : 4294967296 = p * 2 * 2 ^ u := by rw [← g1, Nat.pow_succ]; simp only [Nat.mul_assoc, Nat.mul_comm]
  have e3 : p * 2 * M % 4294967296 = p * 2 * (M % 2 ^ u) := by
    conv => lhs; rw [e2]
    exact Nat.mul_mod_mul_left _ _ _
  rw [e3]
  have h5 : M % 2 ^ u + 1 ≤ 2 ^ u := Nat.mod_lt _ (Nat.two_pow_pos _)
  have h6 := Nat.mul_le_mul_left (p * 2) h5
  rw [← e2, Nat.mul_add] at h6
  omega
theorem BitI.high {X V r i : Nat} {q : List Nat} (h : BitI X V q r (i + 1)) (hV : 0 < V) (hq : i / 32 < q.length) (hy : V ≤ 2 * r + X / 2 ^ i % 2) :
    BitI X V (q.set (i / 32) (dg q (i / 32) + 2 ^ (i % 32))) (2 * r + X / 2 ^ i % 2 - V) i := by
  have hr := h.room
  obtain ⟨h1, h2, h3⟩ := h
  rw [h3] at hy ⊢
  obtain ⟨e1, e2⟩ := (bit_next X V i hV).2 hy
  refine ⟨h1.set _ hr, ?_, e2.symm⟩
  rw [val_set_add hq, ← pow_two_cut, h2, e1, Nat.pow_succ, Nat.add_mul, Nat.one_mul, Nat.mul_comm 2 (X / (2 ^ i * 2) / V), Nat.mul_assoc, Nat.mul_comm 2]
theorem BitI.fin {X V r : Nat} {q : List Nat} (h : BitI X V q r 0) : val q = X / V ∧ r = X % V := by
  obtain ⟨h1, h2, h3⟩ := h
  rw [Nat.pow_zero, Nat.div_one] at h2 h3
  exact ⟨by rw [h2, Nat.mul_one], h3⟩
/-- Where it starts: the highest digits are less than the divisor. -/
theorem BitI.first {a b : List Nat} (ha : Dig a) (tb : Trm b) (hb : b ≠ []) (hl : b.length ≤ a.length) (n : Nat) :
    BitI (val a) (val b) (List.replicate n 0) (val (a.drop (a.length - b.length + 1))) (32 * (a.length - b.length + 1)) := by
  refine BitI.start ?_ ?_
  · rw [pow_two_32, val_div_pow ha]
  · have h1 := val_lt (ha.drop (a.length - b.length + 1))
    have h2 := pow_le_val tb hb
    have h3 : 1 ≤ b.length := by cases b with | nil => exact absurd rfl hb | cons x l => simp
    have h4 : (a.drop (a.length - b.length + 1)).length = b.length - 1 := by rw [List.length_drop]; omega
    rw [h4] at h1
    omega
end Go.Proofs.YtchnaimpmegbkaaGreatDoor

/- The reference's bit and Parted: division bit by bit. -/
namespace Go.Proofs.YtchnaimpmegbkaaGreatDoor
open Go.RowKit
set_option linter.unusedVariables false

set_option maxHeartbeats 400000 in
theorem refBit_any (A : Option Addr) (ca : Nat) (a : List Nat) (i : Nat) (w : World) {na : Nat} (hna : a.length = na) (ha : NR w A ca a) (hi : i ≤ 1125899906842624) :
    Calls Tryz.prog 134 #[.slice A na ca, .int .i64 i] w fun e w' => e = .returned (.int .u64 (val a / 2 ^ i % 2 : Nat)) ∧ w = w' := by
  obtain ⟨j, hj⟩ : ∃ j, i / 32 = j := ⟨_, rfl⟩
  obtain ⟨s, hs⟩ : ∃ s, i % 32 = s := ⟨_, rfl⟩
  have e1 : (i : Int) / 32 = j := by omega
  have e2 : (i : Int) % 32 = s := by omega
  have hs2 : (s : Int) ≤ 31 := by omega
  have hj2 : j ≤ 4611686018427387904 := by omega
  have hi2 : (i : Int) ≤ 1125899906842624 := int_le_of hi
  have HB := Lib.hid (bit_digit ha.dig i)
  rw [hj, hs] at HB
  have hd : (dg a j : Int) ≤ 4294967295 := by have := dg_lt ha.dig j; omega
  clear hj hs hi
  go_enter Tryz.func134, Tryz.ntmps134
  go_wp2_with fail
  refine (refAt_any A ca a j _ hna ha hj2).mono ?_
  rintro e w1 ⟨rfl, rfl⟩
  go_wp2_with fail
  go_ret
  exact ⟨ret_int (by rw [Int.tmod_eq_emod_of_nonneg (Int.ediv_nonneg (by omega) (Int.pow_nonneg (by omega))), ← HB.out]; simp), rfl⟩

/-- Where a cut 's[n:]' leads. -/
def dropA (A : Option Addr) (n c : Nat) : Option Addr := if c = n then A else A.map fun x => x.add n
theorem slice_from (W : World) (A : Option Addr) (m c n : Nat) (h : n ≤ m) :
    (Instr.slice 25 (.slice A m c) (some (.int .i64 (n : Int))) none none).run Tryz.prog W = .ok (.slice (dropA A n c) (m - n) (c - n)) W := by
  have e : Tryz.prog.elem 25 = 120 := by kernel_rfl
  rw [run_slice_l (P := Tryz.prog) (w := W) 25 A m c (by rw [e]; exact Tryz.underlying25) .i64 n (by omega) (by omega), e, Tryz.sizeOf120 W]
  simp [Result.andThen, sliced, dropA]
theorem NR.drop {w : World} {A : Option Addr} {c : Nat} {l : List Nat} (h : NR w A c l) (n : Nat) (hn : n ≤ l.length) : NR w (dropA A n c) (c - n) (l.drop n) := by
  have h1 := h.le
  have h2 := h.cap
  have h3 := h.len
  refine ⟨h.1.drop n, by rw [List.length_drop]; omega, ⟨by omega, by rw [List.length_drop]; omega⟩, fun hne => ?_⟩
  have hl : l ≠ [] := fun e => hne (by rw [e]; simp)
  have hlt : n < l.length := by
    rcases Nat.lt_or_ge n l.length with h4 | h4
    · exact h4
    · exact absurd (List.drop_of_length_le h4) hne
  obtain ⟨b, off, e, hb, hc⟩ := h.2.2.2 hl
  refine ⟨b, off + n, by rw [dropA, if_neg (by omega), e]; simp [Addr.add], hb, fun i hi => ?_⟩
  rw [List.length_drop] at hi
  rw [dg_drop, Nat.add_assoc]
  exact hc (n + i) (by omega)
theorem NF.far {B : Nat} {w : World} {A : Option Addr} {c : Nat} {l : List Nat} (h : NF B w A c l) {p : Addr} (hp : p.block < B) (u : Value) : NF B (w.setCell p u) A c l := by
  refine ⟨⟨h.1.1, h.1.2.1, h.1.2.2.1, fun hn => ?_⟩, fun hn => ?_⟩
  · obtain ⟨b, off, e, hb, hc⟩ := h.1.2.2.2 hn
    obtain ⟨b2, off2, e2, hB, _⟩ := h.2 hn
    have hbb : b = b2 := by rw [e] at e2; injection e2 with e2; injection e2
    exact ⟨b, off, e, by simpa using hb, fun i hi => (World.cell?_of_block (Below.heap_setCell w p u b (by omega))).trans (hc i hi)⟩
  · obtain ⟨b, off, e, hB, hf⟩ := h.2 hn
    exact ⟨b, off, e, hB, fun i hi => (World.frozen?_setCell ..).trans (hf i hi)⟩
theorem NF.drew {B : Nat} {w : World} {A : Option Addr} {c : Nat} {l : List Nat} (h : NF B w A c l) : NF B w.drew A c l := ⟨h.1.drew, h.2⟩
theorem digs_len_of_lt {x y : Nat} (h : x < y) : (digs x).length ≤ (digs y).length := digs_len_mono (Nat.le_of_lt h)
theorem add_pow_cast {d s : Nat} (h : d + 2 ^ s < 4294967296) : ((d : Int) + 2 ^ s) % 4294967296 = ((d + 2 ^ s : Nat) : Int) := by
  have e : ((2 ^ s : Nat) : Int) = (2 : Int) ^ s := by simp
  rw [← e]
  clear e
  generalize 2 ^ s = p at *
  omega
theorem toNat_bit (b : Nat) : b % 2 < 18446744073709551616 := by omega
theorem digs_double {x n : Nat} (h : (digs x).length ≤ n) : (digs (x + x)).length ≤ n + 1 := by
  refine digs_len_le ?_
  have := lt_of_digs_len h
  rw [Nat.pow_succ]
  omega

set_option maxHeartbeats 400000 in
set_option maxRecDepth 100000 in
theorem refParted_any (A : Option Addr) (ca : Nat) (a : List Nat) (Bd : Option Addr) (cb : Nat) (b : List Nat) (w : World) {na nb : Nat} (hna : a.length = na) (hnb : b.length = nb) (ha : NR w A ca a) (hb : NR w Bd cb b) (tb : Trm b) (hne : b ≠ []) (la : na ≤ 1048000) (lb : nb ≤ 1048000) :
    Calls Tryz.prog 131 #[.slice A na ca, .slice Bd nb cb] w fun e w' => PartOut w w' e (val a) (val b) := by
  have Ha := Lib.hid hna
  have Hb := Lib.hid hnb
  have Ra := Lib.hid ha
  have Rb := Lib.hid hb
  by_cases hlt : na < nb
  · have hl : val a < val b := val_lt_of_len ha.dig tb (by omega)
    have hq : val a / val b = 0 := Nat.div_eq_of_lt hl
    have hr : val a % val b = val a := Nat.mod_eq_of_lt hl
    unfold PartOut
    rw [hq, hr]
    clear hna hnb ha hb hl hq hr
    go_enter Tryz.func131, Tryz.ntmps131
    go_wp2_with fail
    refine (refTrim_any A ca a _ Ha.out Ra.out).mono ?_
    rintro e w1 ⟨A', c', rfl, hnf, hb1⟩
    go_wp2_with fail
    go_ret2
    exact ⟨none, 0, A', c', rfl, NF.nil _ _, hnf, fun h => absurd rfl h, hb1⟩
  · have hnb1 : 1 ≤ nb := by
      cases b with
      | nil => exact absurd rfl hne
      | cons x l => simp at hnb; omega
    have vpos : Hid (0 < val b) := val_pos tb hne
    obtain ⟨fr, hfr⟩ : ∃ fr : Nat, na - nb + 1 = fr := ⟨_, rfl⟩
    have hfri : (na : Int) - nb + 1 = fr := by omega
    have hfr1 : fr ≤ na := by omega
    have hfr2 : 1 ≤ fr := by omega
    have HI0 := Lib.hid (BitI.first ha.dig tb hne (by omega) na)
    rw [hna, hnb, hfr] at HI0
    have HD0 := Lib.hid (ha.drop fr (by omega))
    have HDL : Hid ((a.drop fr).length = na - fr) := by unfold Hid; rw [List.length_drop]; omega
    have hsl := fun W => slice_from W A na ca fr hfr1
    clear hna hnb ha hb hfr
    go_enter Tryz.func131, Tryz.ntmps131
    go_wp2_with (at_make; refine wpList_make_nat _ rfl _ _ rfl na rfl rfl (by omega) (by omega) (by omega) ?_; intro w1 hk1 hb1 hs1)
    have HK1 := Lib.hid hk1
    clear hk1
    refine (refTrim_any _ _ (a.drop fr) _ HDL.out (HD0.out.below hb1)).mono ?_
    rintro e w2 ⟨R, cr, rfl, hnf, hb2⟩
    go_wp2_with fail
    have hb20 : Below w.heap.size w w2 := hb1.trans (hb2.mono (by omega))
    have HK2 : Hid (BlkN w2 w.heap.size (List.replicate na 0)) := HK1.out.below' hb2
    have HR2 : Hid (NF (w.heap.size + 1) w2 R cr (digs (val (a.drop fr)))) := hnf.mono hs1
    have hq0 : w.heap.size < w2.heap.size := HK2.out.lt
    have HW1 : Hid (w.heap.size < w1.heap.size) := hs1
    clear hnf hb1 hb2 hs1
    go_loopw [8, 9] (fun vr vi wr => ∃ (i r : Nat) (q : List Nat) (R : Option Addr) (cr : Nat), i ≤ 32 * fr ∧ vi = .int .i64 ((i : Int) - 1) ∧ vr = .slice R (digs r).length cr ∧ Hid (BitI (val a) (val b) q r i) ∧ Hid (q.length = na) ∧ Hid (BlkN wr w.heap.size q) ∧ Hid (NF (w.heap.size + 1) wr R cr (digs r)) ∧ Below w.heap.size w wr ∧ w.heap.size < wr.heap.size) (fun _ vi _ => (intOf vi + 1).toNat)
    case atStart =>
      refine ⟨32 * fr, val (a.drop fr), List.replicate na 0, R, cr, Nat.le_refl _, int_cong ?_, rfl, HI0.out, ?_, HK2.out, HR2.out, hb20, hq0⟩
      · omega
      · simp [Hid]
    case round =>
      obtain ⟨i, r, q, R, cr, hi, rfl, rfl, HI, HQL, HQ, HR, hbel, hsz⟩ := hrel
      obtain ⟨wo, rfl⟩ : ∃ wo : World, wo = wr := ⟨_, rfl⟩
      have HLr : Hid ((digs r).length ≤ nb) := by
        have h1 := digs_len_of_lt (HI.out.lt vpos.out)
        rw [digs_val Rb.out.dig tb, Hb.out] at h1
        exact h1
      by_cases h0 : 0 < i
      · obtain ⟨k, rfl⟩ : ∃ k, i = k + 1 := ⟨i - 1, by omega⟩
        have e1 : ((k + 1 : Nat) : Int) - 1 = k := by omega
        rw [e1]
        clear e1
        have HS1 : Hid ((digs (r + r)).length ≤ nb + 1) := digs_double HLr.out
        have hbt : val a / 2 ^ k % 2 < 18446744073709551616 := toNat_bit _
        obtain ⟨bt, hbte⟩ : ∃ bt, val a / 2 ^ k % 2 = bt := ⟨_, rfl⟩
        have HBT := Lib.hid hbte
        have HI2 := HI.out
        go_wp2_with fail
        refine (refPlus_any R cr (digs r) R cr (digs r) _ rfl rfl HR.out.1 HR.out.1 (by have := HLr.out; omega) (by have := HLr.out; omega)).mono ?_
        rintro e w3 ⟨X, cx, rfl, hx, hb3⟩
        rw [val_digs] at hx ⊢
        have hbA : Below w.heap.size w w3 := hbel.trans (hb3.mono hbel.size)
        go_wp2_with fail
        refine (refBit_any A ca a k _ Ha.out (Ra.out.below hbA) (by omega)).mono ?_
        rintro e w4 ⟨rfl, rfl⟩
        rw [HBT.out]
        go_wp2_with fail
        refine (refOf_any bt _ (by have := HBT.out; omega)).mono ?_
        rintro e w5 ⟨Y, cy, rfl, hy, hb5⟩
        have hbB : Below w.heap.size w w5 := hbA.trans (hb5.mono hbA.size)
        go_wp2_with fail
        refine (refPlus_any X cx (digs (r + r)) Y cy (digs bt) _ rfl rfl (hx.1.below hb5) hy.1 (by have := HS1.out; omega) (by have := digs_len_le (n := bt) (k := 1) (by have := HBT.out; omega); omega)).mono ?_
        rintro e w6 ⟨Z, cz, rfl, hz, hb6⟩
        rw [val_digs, val_digs] at hz ⊢
        have hbC : Below w.heap.size w w6 := hbB.trans (hb6.mono hbB.size)
        obtain ⟨y, hy2⟩ : ∃ y, r + r + bt = y := ⟨_, rfl⟩
        rw [hy2] at hz ⊢
        have HY : Hid (2 * r + val a / 2 ^ k % 2 = y) := by have := HBT.out; unfold Hid; omega
        have HZ : Hid (NF (w.heap.size + 1) w6 Z cz (digs y)) := hz.mono (by have := hbB.size; have := hb5.size; have := hb3.size; omega)
        have HQ6 : Hid (BlkN w6 w.heap.size q) := ((HQ.out.below' hb3).below' hb5).below' hb6
        have hsz6 : w.heap.size < w6.heap.size := HQ6.out.lt
        clear hx hy hz hb3 hb5 hb6 hy2 hbA hbB
        go_wp2_with fail
        refine (refOrder_any Z cz (digs y) Bd cb b _ rfl Hb.out HZ.out.1 (Rb.out.below hbC)).mono ?_
        rintro e w7 ⟨rfl, rfl⟩
        rw [val_digs]
        by_cases hlow : y < val b
        · rw [cmpN_lt hlow]
          have HLOW := Lib.hid (HI.out.low vpos.out (by rw [HY.out]; exact hlow))
          rw [HY.out] at HLOW
          clear hlow
          go_wp2_with fail
          go_roundw
          case rel => exact ⟨k, y, q, Z, cz, by omega, rfl, rfl, HLOW.out, HQL.out, HQ6.out, HZ.out, hbC, hsz6⟩
          case measure => simp [intOf]
        · obtain ⟨z, hz, hz0⟩ : ∃ z : Int, cmpN y (val b) = z ∧ decide (0 ≤ z) = true := ⟨_, rfl, by rcases cmpN_cases y (val b) with ⟨h, e⟩ | ⟨h, e⟩ | ⟨h, e⟩ <;> rw [e] <;> first | omega | rfl⟩
          rw [hz]
          have hjq : k / 32 < q.length := by have := HQL.out; omega
          have HHI := Lib.hid (HI.out.high vpos.out hjq (by rw [HY.out]; omega))
          have HRM := Lib.hid HI.out.room
          rw [HY.out] at HHI
          obtain ⟨j, hj⟩ : ∃ j, k / 32 = j := ⟨_, rfl⟩
          obtain ⟨s, hs⟩ : ∃ s, k % 32 = s := ⟨_, rfl⟩
          have e1 : (k : Int) / 32 = j := by omega
          have e2 : (k : Int) % 32 = s := by omega
          have hs2 : (s : Int) ≤ 31 := by omega
          rw [hj] at HHI HRM hjq
          rw [hs] at HHI HRM
          have HLE : Hid (val b ≤ y) := by unfold Hid; omega
          have hjn : j < na := by have := HQL.out; omega
          clear hz hlow hj hs
          go_wp2_with fail
          refine (refMinus_any Z cz (digs y) Bd cb b _ rfl Hb.out HZ.out.1 (Rb.out.below hbC) tb (by rw [val_digs]; exact HLE.out)).mono ?_
          rintro e w8 ⟨M, cm, rfl, hm, hb8⟩
          rw [val_digs] at hm ⊢
          have HQ8 : Hid (BlkN w8 w.heap.size q) := HQ6.out.below' hb8
          have hbD : Below w.heap.size w w8 := hbC.trans (hb8.mono hbC.size)
          have HM : Hid (NF (w.heap.size + 1) w8 M cm (digs (y - val b))) := hm.mono (by omega)
          have hcell := HQ8.out.cell (i := j) hjq
          have hfr := HQ8.out.frozen j
          have hdq : (dg q j : Int) ≤ 4294967295 := by have := dg_lt HQ8.out.2 j; omega
          clear hm hb8
          go_wp2_with fail
          go_region
          go_wp2_with fail
          have HV : Hid (Value.int .u32 (((dg q j : Int) + 2 ^ s) % 4294967296) = .int .u32 ((dg q j + 2 ^ s : Nat) : Int)) := int_cong (add_pow_cast HRM.out)
          have HBS := HQ8.out.set j HRM.out
          rw [HV.out]
          go_roundw
          case rel => exact ⟨k, _, _, M, cm, by omega, rfl, rfl, HHI.out, by have := HQL.out; simp [Hid, this], HBS.drew, (HM.out.far (p := ⟨w.heap.size, j, none⟩) (Nat.lt_succ_self _) _).drew, (hbD.setCell (Nat.le_refl _) _).drew, by have := hbD.size; have := HQ8.out.lt; simpa using this⟩
          case measure => simp [intOf]
      · obtain rfl : i = 0 := by omega
        obtain ⟨hq, hr⟩ := HI.out.fin
        have HQV := Lib.hid hq
        have HRV := Lib.hid hr
        clear hq hr
        have nfq := Lib.hid (HQ.out.nf (B := w.heap.size) (c := na) (Nat.le_refl _) (by have := HQL.out; omega) (by omega) (by have := HQL.out; omega))
        go_wp2_with fail
        refine (refTrim_any _ _ q _ HQL.out nfq.out.1).mono ?_
        rintro e w4 ⟨Q, cq, rfl, hQ, hb4⟩
        rw [HQV.out] at hQ ⊢
        go_wp2_with fail
        go_ret2
        have hR := HR.out.below hb4
        rw [HRV.out] at hR ⊢
        refine ⟨Q, cq, R, cr, rfl, hQ.mono hbel.size, hR.mono (by omega), ?_, hbel.trans (hb4.mono hbel.size)⟩
        intro n1 n2 g o h p e1 e2
        obtain ⟨g', o', e3, hB, _⟩ := hQ.2 n1
        have hR1 := HR.out
        rw [HRV.out] at hR1
        obtain ⟨h', p', e4, hlt, _⟩ := hR1.1.2.2.2 n2
        rw [e1] at e3
        rw [e2] at e4
        injection e3 with e3
        injection e3 with e3
        injection e4 with e4
        injection e4 with e4
        omega
end Go.Proofs.YtchnaimpmegbkaaGreatDoor

/- parted, whatever the numbers; the greatest common divisor. -/
namespace Go.Proofs.YtchnaimpmegbkaaGreatDoor
open Go.RowKit
set_option linter.unusedVariables false

theorem parted_any (A : Option Addr) (ca : Nat) (a : List Nat) (Bd : Option Addr) (cb : Nat) (b : List Nat) (w : World) {na nb : Nat} (hna : a.length = na) (hnb : b.length = nb) (ha : NR w A ca a) (hb : NR w Bd cb b) (ta : Trm a) (tb : Trm b) (hne : b ≠ []) (la : na ≤ 1048000) (lb : nb ≤ 1048000) :
    Calls Tryz.prog 91 #[.slice A na ca, .slice Bd nb cb] w fun e w' => PartOut w w' e (val a) (val b) := by
  rcases Nat.lt_or_ge (val a) (val b) with h | h
  · exact parted_less A ca a Bd cb b w hna hnb ha hb ta tb h
  · by_cases h1 : nb = 1
    · subst hna h1
      exact parted_one A ca a Bd cb b w hnb ha hb ta tb h (by omega)
    · have : 1 ≤ nb := by
        cases b with
        | nil => exact absurd rfl hne
        | cons x l => simp at hnb; omega
      exact parted_many A ca a Bd cb b w hna hnb ha hb ta tb h (by omega) (by omega) (by omega)

/-- The greatest common divisor. -/
def gcdN (a b : Nat) : Nat := Nat.gcd a b
theorem gcdN_zero (a : Nat) : gcdN a 0 = a := Nat.gcd_zero_right a
theorem gcdN_next (a b : Nat) : gcdN b (a % b) = gcdN a b := by unfold gcdN; rw [Nat.gcd_comm, ← Nat.gcd_rec, Nat.gcd_comm]
theorem digs_len_pos {n : Nat} (h : n ≠ 0) : 0 < (digs n).length := List.length_pos_iff.2 (digs_ne h)

set_option maxHeartbeats 1000000 in
set_option maxRecDepth 100000 in
theorem common_any (A : Option Addr) (ca : Nat) (a : List Nat) (Bd : Option Addr) (cb : Nat) (b : List Nat) (w : World) {na nb : Nat} (hna : a.length = na) (hnb : b.length = nb) (ha : NR w A ca a) (hb : NR w Bd cb b) (ta : Trm a) (tb : Trm b) (la : na ≤ 1048000) (lb : nb ≤ 1048000) :
    Calls Tryz.prog 90 #[.slice A na ca, .slice Bd nb cb] w fun e w' => ∃ A' c', e = .returned (.slice A' (digs (gcdN (val a) (val b))).length c') ∧ NF w.heap.size w' A' c' (digs (gcdN (val a) (val b))) ∧ Below w.heap.size w w' := by
  have Ea := digs_val ha.dig ta
  have Eb := digs_val hb.dig tb
  have Ha : Hid (na = (digs (val a)).length) := by rw [Ea]; exact hna.symm
  have Hb : Hid (nb = (digs (val b)).length) := by rw [Eb]; exact hnb.symm
  have Ra : Hid (NR w A ca (digs (val a))) := by rw [Ea]; exact ha
  have Rb : Hid (NR w Bd cb (digs (val b))) := by rw [Eb]; exact hb
  generalize val a = x0 at *
  generalize val b = y0 at *
  clear Ea Eb hna hnb ha hb ta tb
  go_enter Tryz.func90, Tryz.ntmps90
  go_wp2_with fail
  go_loopg [0, 1] y0 (fun g va vb wr => ∃ (x : Nat) (X Y : Option Addr) (cx cy : Nat), va = .slice X (digs x).length cx ∧ vb = .slice Y (digs g).length cy ∧ Hid (gcdN x g = gcdN x0 y0) ∧ Hid (NR wr X cx (digs x)) ∧ Hid (NR wr Y cy (digs g)) ∧ (digs x).length ≤ 1048000 ∧ (digs g).length ≤ 1048000 ∧ Below w.heap.size w wr)
  case atStart => exact ⟨x0, A, Bd, ca, cb, by rw [Ha.out], by rw [Hb.out], rfl, Ra.out, Rb.out, by rw [← Ha.out]; exact la, by rw [← Hb.out]; exact lb, Below.refl _ _⟩
  case round =>
    obtain ⟨x, X, Y, cx, cy, rfl, rfl, HG, RX, RY, lx, ly, hbel⟩ := hrel
    obtain ⟨wo, rfl⟩ : ∃ wo : World, wo = wr := ⟨_, rfl⟩
    have lxi : ((digs x).length : Int) ≤ 1048000 := int_le_of lx
    have lyi : ((digs gk).length : Int) ≤ 1048000 := int_le_of ly
    by_cases h0 : gk = 0
    · subst h0
      rw [gcdN_zero] at HG
      have hz : ((digs 0).length : Int) = 0 := rfl
      have hz0 : decide (0 < (digs 0).length) = false := rfl
      go_wp2_with fail
      refine (Clone_any X cx (digs x) _ rfl RX.out).mono ?_
      rintro e w1 ⟨A', c', rfl, hnf, hb1⟩
      go_wp2_with fail
      go_ret
      have := HG.out
      subst this
      exact ⟨A', c', rfl, hnf.mono hbel.size, hbel.trans (hb1.mono hbel.size)⟩
    · have hp := digs_len_pos h0
      have hpd : decide (0 < (digs gk).length) = true := by simpa using hp
      have HN := Lib.hid (gcdN_next x gk)
      have HP := Lib.hid h0
      have HLT : Hid (x % gk < gk) := Nat.mod_lt _ (Nat.pos_of_ne_zero h0)
      have HLM : Hid ((digs (x % gk)).length ≤ 1048000) := Nat.le_trans (digs_len_of_lt HLT.out) ly
      clear h0
      go_wp2_with fail
      refine (parted_any X cx (digs x) Y cy (digs gk) _ rfl rfl RX.out RY.out (Trm.digs _) (Trm.digs _) (digs_ne HP.out) lx ly).mono ?_
      rintro e w1 ⟨Q, cq, R, cr, rfl, hQ, hR, hap, hb1⟩
      rw [val_digs, val_digs] at hQ hR ⊢
      have hR2 := Lib.hid hR
      clear hQ hR hap
      go_wp2_with fail
      go_roundg (x % gk)
      case measure => exact HLT.out
      case rel => exact ⟨gk, Y, R, cy, cr, rfl, rfl, HN.out.trans HG.out, RY.out.below hb1, hR2.out.1, ly, HLM.out, hbel.trans (hb1.mono hbel.size)⟩

set_option maxHeartbeats 1000000 in
set_option maxRecDepth 100000 in
theorem refCommon_any (A : Option Addr) (ca : Nat) (a : List Nat) (Bd : Option Addr) (cb : Nat) (b : List Nat) (w : World) {na nb : Nat} (hna : a.length = na) (hnb : b.length = nb) (ha : NR w A ca a) (hb : NR w Bd cb b) (ta : Trm a) (tb : Trm b) (la : na ≤ 1048000) (lb : nb ≤ 1048000) :
    Calls Tryz.prog 120 #[.slice A na ca, .slice Bd nb cb] w fun e w' => ∃ A' c', e = .returned (.slice A' (digs (gcdN (val a) (val b))).length c') ∧ NF w.heap.size w' A' c' (digs (gcdN (val a) (val b))) ∧ Below w.heap.size w w' := by
  have Ea := digs_val ha.dig ta
  have Eb := digs_val hb.dig tb
  have Ha : Hid (na = (digs (val a)).length) := by rw [Ea]; exact hna.symm
  have Hb : Hid (nb = (digs (val b)).length) := by rw [Eb]; exact hnb.symm
  have Ra : Hid (NR w A ca (digs (val a))) := by rw [Ea]; exact ha
  have Rb : Hid (NR w Bd cb (digs (val b))) := by rw [Eb]; exact hb
  generalize val a = x0 at *
  generalize val b = y0 at *
  clear Ea Eb hna hnb ha hb ta tb
  go_enter Tryz.func120, Tryz.ntmps120
  go_wp2_with fail
  go_loopg [0, 1] y0 (fun g va vb wr => ∃ (x : Nat) (X Y : Option Addr) (cx cy : Nat), va = .slice X (digs x).length cx ∧ vb = .slice Y (digs g).length cy ∧ Hid (gcdN x g = gcdN x0 y0) ∧ Hid (NR wr X cx (digs x)) ∧ Hid (NR wr Y cy (digs g)) ∧ (digs x).length ≤ 1048000 ∧ (digs g).length ≤ 1048000 ∧ Below w.heap.size w wr)
  case atStart => exact ⟨x0, A, Bd, ca, cb, by rw [Ha.out], by rw [Hb.out], rfl, Ra.out, Rb.out, by rw [← Ha.out]; exact la, by rw [← Hb.out]; exact lb, Below.refl _ _⟩
  case round =>
    obtain ⟨x, X, Y, cx, cy, rfl, rfl, HG, RX, RY, lx, ly, hbel⟩ := hrel
    obtain ⟨wo, rfl⟩ : ∃ wo : World, wo = wr := ⟨_, rfl⟩
    have lxi : ((digs x).length : Int) ≤ 1048000 := int_le_of lx
    have lyi : ((digs gk).length : Int) ≤ 1048000 := int_le_of ly
    by_cases h0 : gk = 0
    · subst h0
      rw [gcdN_zero] at HG
      have hz : ((digs 0).length : Int) = 0 := rfl
      have hz0 : decide (0 < (digs 0).length) = false := rfl
      go_wp2_with fail
      refine (refTrim_any X cx (digs x) _ rfl RX.out).mono ?_
      rintro e w1 ⟨A', c', rfl, hnf, hb1⟩
      rw [val_digs] at hnf ⊢
      go_wp2_with fail
      go_ret
      have := HG.out
      subst this
      exact ⟨A', c', rfl, hnf.mono hbel.size, hbel.trans (hb1.mono hbel.size)⟩
    · have hp := digs_len_pos h0
      have hpd : decide (0 < (digs gk).length) = true := by simpa using hp
      have HN := Lib.hid (gcdN_next x gk)
      have HP := Lib.hid h0
      have HLT : Hid (x % gk < gk) := Nat.mod_lt _ (Nat.pos_of_ne_zero h0)
      have HLM : Hid ((digs (x % gk)).length ≤ 1048000) := Nat.le_trans (digs_len_of_lt HLT.out) ly
      clear h0
      go_wp2_with fail
      refine (refParted_any X cx (digs x) Y cy (digs gk) _ rfl rfl RX.out RY.out (Trm.digs _) (digs_ne HP.out) lx ly).mono ?_
      rintro e w1 ⟨Q, cq, R, cr, rfl, hQ, hR, hap, hb1⟩
      rw [val_digs, val_digs] at hQ hR ⊢
      have hR2 := Lib.hid hR
      clear hQ hR hap
      go_wp2_with fail
      go_roundg (x % gk)
      case measure => exact HLT.out
      case rel => exact ⟨gk, Y, R, cy, cr, rfl, rfl, HN.out.trans HG.out, RY.out.below hb1, hR2.out.1, ly, HLM.out, hbel.trans (hb1.mono hbel.size)⟩
end Go.Proofs.YtchnaimpmegbkaaGreatDoor

/- times and the reference's Times. -/
namespace Go.Proofs.YtchnaimpmegbkaaGreatDoor
open Go.RowKit
set_option linter.unusedVariables false

set_option maxHeartbeats 2000000 in
set_option maxRecDepth 100000 in
theorem times_any (A : Option Addr) (ca : Nat) (a : List Nat) (Bd : Option Addr) (cb : Nat) (b : List Nat) (w : World) {na nb : Nat} (hna : a.length = na) (hnb : b.length = nb) (ha : NR w A ca a) (hb : NR w Bd cb b) (la : na ≤ 1048576) (lb : nb ≤ 1048576) :
    Calls Tryz.prog 86 #[.slice A na ca, .slice Bd nb cb] w fun e w' => ∃ A' c', e = .returned (.slice A' (digs (val a * val b)).length c') ∧ NF w.heap.size w' A' c' (digs (val a * val b)) ∧ Below w.heap.size w w' := by
  have Ha := Lib.hid hna
  have Hb := Lib.hid hnb
  have Ra := Lib.hid ha
  have Rb := Lib.hid hb
  clear hna hnb ha hb
  go_enter Tryz.func86, Tryz.ntmps86
  go_wp2_with (at_make; refine wpList_make_nat _ rfl _ _ rfl (na + nb) rfl rfl (by omega) (by omega) (by omega) ?_; intro w1 hk1 hb1 hs1)
  have HK1 := Lib.hid hk1
  clear hk1
  go_loopw [19] (fun vi wr => ∃ (i : Nat) (l : List Nat), i ≤ na ∧ vi = .int .i64 i ∧ Hid (TimesO a b l i) ∧ Hid (l.length = na + nb) ∧ Hid (BlkN wr w.heap.size l) ∧ Below w.heap.size w wr) (fun vi _ => na - (intOf vi).toNat)
  case atStart => exact ⟨0, List.replicate (na + nb) 0, by omega, rfl, TimesO.start _ _ _, by simp [Hid], HK1.out, hb1⟩
  case round =>
    obtain ⟨i, l0, hi, rfl, HO, HL0, HB0, hbel0⟩ := hrel
    obtain ⟨wo, rfl⟩ : ∃ wo : World, wo = wr := ⟨_, rfl⟩
    by_cases hin : i < na
    · obtain ⟨b0, off, rfl, hb0, hc0⟩ := Ra.out.at_ (i := i) (by have := Ha.out; omega)
      have hca : wo.cell? ⟨b0, off + i, none⟩ = some (.int .u32 (dg a i : Nat)) := (hbel0.cell (p := ⟨b0, _, none⟩) hb0).trans hc0
      have hdi : (dg a i : Int) ≤ 4294967295 := by have := dg_lt Ra.out.dig i; omega
      clear hc0
      go_wp2_with fail
      go_loopw [8, 26] (fun vc vj wr => ∃ (j c : Nat) (l : List Nat), j ≤ nb ∧ vj = .int .i64 j ∧ vc = .int .u64 c ∧ Hid (TimesI a b l0 l i j c) ∧ Hid (l.length = na + nb) ∧ Hid (BlkN wr w.heap.size l) ∧ Below w.heap.size w wr) (fun _ vj _ => nb - (intOf vj).toNat)
      case atStart => exact ⟨0, 0, l0, by omega, rfl, rfl, TimesI.start HO.out, HL0.out, HB0.out, hbel0⟩
      case round =>
        obtain ⟨j, c, l, hj, rfl, rfl, HI, HL, HB, hbel⟩ := hrel
        have hc4 : (c : Int) ≤ 4294967295 := by have := HI.out.2.2.1; omega
        by_cases hjn : j < nb
        · obtain ⟨b1, of1, rfl, hb1', hc1⟩ := Rb.out.at_ (i := j) (by have := Hb.out; omega)
          have hcb : wr.cell? ⟨b1, of1 + j, none⟩ = some (.int .u32 (dg b j : Nat)) := (hbel.cell (p := ⟨b1, _, none⟩) hb1').trans hc1
          have hdj : (dg b j : Int) ≤ 4294967295 := by have := dg_lt Rb.out.dig j; omega
          have hcell := HB.out.cell (i := i + j) (by have := HL.out; omega)
          have hfr := HB.out.frozen (i + j)
          have hdl : (dg l (i + j) : Int) ≤ 4294967295 := by have := dg_lt HB.out.2 (i + j); omega
          obtain ⟨q1, q2, q3⟩ := HI.out.bound Ra.out.dig Rb.out.dig
          have q4 : (dg a i : Int) * dg b j ≤ 18446744065119617025 := by rw [← Int.natCast_mul]; omega
          have q5 : 0 ≤ (dg a i : Int) * dg b j := by rw [← Int.natCast_mul]; omega
          have q6 : (dg a i : Int) * dg b j + dg l (i + j) + c ≤ 18446744073709551615 := by rw [← Int.natCast_mul]; omega
          have HQ : Hid ((dg a i : Int) * dg b j + dg l (i + j) + c = ((dg a i * dg b j + dg l (i + j) + c : Nat) : Int)) := by unfold Hid; rw [← Int.natCast_mul]; omega
          have HQ3 := Lib.hid q3
          have HS := Lib.hid (HI.out.step Ra.out.dig Rb.out.dig (by have := HL.out; omega))
          have HBS := Lib.hid (HB.out.set (i + j) (x := (dg a i * dg b j + dg l (i + j) + c) % 4294967296) (by omega))
          clear q1 q2 q3 hc1
          go_wp2_with fail
          refine (halves_any _ _ HQ.out (by have := HQ3.out; omega)).mono ?_
          rintro e w2 ⟨rfl, rfl⟩
          go_wp2_with fail
          go_roundw
          case rel => exact ⟨j + 1, _, _, by omega, by go_num, rfl, HS.out, by have := HL.out; simp [Hid, this], HBS.out, hbel.setCell (Nat.le_refl _) _⟩
          case measure => simp [intOf]; omega
        · obtain rfl : j = nb := by omega
          have hcell := HB.out.cell (i := i + j) (by have := HL.out; omega)
          have hfr := HB.out.frozen (i + j)
          have HF := Lib.hid (TimesI.fin HO.out (by have := HI.out; rw [Hb.out]; exact this) (by have := HL.out; have := Hb.out; omega))
          have HBS := Lib.hid (HB.out.set (i + j) (x := c) HI.out.2.2.1)
          go_wp2_with fail
          go_roundw
          case rel => exact ⟨i + 1, l.set (i + j) c, by omega, by go_num, by have := HF.out; rw [Hb.out] at this; exact this, by have := HL.out; simp [Hid, this], HBS.out, hbel.setCell (Nat.le_refl _) _⟩
          case measure => simp [intOf]; omega
    · obtain rfl : i = na := by omega
      have HV := Lib.hid (TimesO.fin (a := a) (b := b) (l := l0) (by have := HO.out; rw [Ha.out]; exact this) (by have := HL0.out; have := Ha.out; have := Hb.out; omega))
      go_wp2_with fail
      have hnf := HB0.out.nf (B := w.heap.size) (c := i + nb) (Nat.le_refl _) (by have := HL0.out; omega) (by omega) (by have := HL0.out; omega)
      refine (trim_any _ _ l0 _ HL0.out hnf.1).mono ?_
      rintro e w2 ⟨rfl, rfl⟩
      go_wp2_with fail
      go_ret
      rw [HV.out]
      exact ⟨_, _, rfl, by have := hnf.trim; rwa [HV.out] at this, hbel0⟩
end Go.Proofs.YtchnaimpmegbkaaGreatDoor

/- valid and the reference's Valid; limited. -/
namespace Go.Proofs.YtchnaimpmegbkaaGreatDoor
open Go.RowKit
set_option linter.unusedVariables false

/-- A valid number. -/
def validB (l : List Nat) : Bool := decide (l.length ≤ 16) && (l.isEmpty || (dg l (l.length - 1) != 0))
theorem validB_iff {l : List Nat} : validB l = true ↔ l.length ≤ 16 ∧ Trm l := by
  unfold validB Trm
  cases l <;> simp
theorem validB_digs (n : Nat) : validB (digs n) = decide ((digs n).length ≤ 16) := by
  rw [Bool.eq_iff_iff, validB_iff, decide_eq_true_eq]
  exact ⟨fun h => h.1, fun h => ⟨h, Trm.digs n⟩⟩
theorem validB_ways (l : List Nat) : (16 < l.length ∧ validB l = false) ∨ (l = [] ∧ validB l = true) ∨ (l ≠ [] ∧ l.length ≤ 16 ∧ dg l (l.length - 1) = 0 ∧ validB l = false) ∨ (l ≠ [] ∧ l.length ≤ 16 ∧ dg l (l.length - 1) ≠ 0 ∧ validB l = true) := by
  unfold validB
  by_cases h : l.length ≤ 16
  · by_cases h2 : l = []
    · exact .inr (.inl ⟨h2, by subst h2; rfl⟩)
    · have h3 : l.isEmpty = false := by simpa using h2
      by_cases h4 : dg l (l.length - 1) = 0
      · exact .inr (.inr (.inl ⟨h2, h, h4, by simp [h3, h4]⟩))
      · exact .inr (.inr (.inr ⟨h2, h, h4, by simp [h, h3, h4]⟩))
  · exact .inl ⟨by omega, by simp; omega⟩

set_option maxHeartbeats 1000000 in
theorem refValid_any (A : Option Addr) (c : Nat) (l : List Nat) (w : World) {n : Nat} (hn : l.length = n) (h : NR w A c l) :
    Calls Tryz.prog 118 #[.slice A n c] w fun e w' => e = .returned (.bool (validB l)) ∧ w = w' := by
  subst hn
  have hlen : (l.length : Int) ≤ 35184372088832 := int_le_of h.len
  rcases validB_ways l with ⟨h1, hv⟩ | ⟨h1, hv⟩ | ⟨h0, h1, h2, hv⟩ | ⟨h0, h1, h2, hv⟩
  · have HV := Lib.hid hv
    have t1 : decide ((l.length : Int) ≤ 16) = false := by simp; omega
    clear hv h1
    go_enter Tryz.func118, Tryz.ntmps118
    go_wp2
    go_ret
    exact ⟨ret_bool HV.out.symm, rfl⟩
  · have HV := Lib.hid hv
    subst h1
    clear hv
    go_enter Tryz.func118, Tryz.ntmps118
    go_wp2
    go_ret
    exact ⟨ret_bool HV.out.symm, rfl⟩
  · have HV := Lib.hid hv
    have hp : 0 < l.length := List.length_pos_iff.2 h0
    obtain ⟨b, off, rfl, hb, hc⟩ := h.at_ (i := l.length - 1) (by omega)
    have t1 : decide ((l.length : Int) ≤ 16) = true := by simp; omega
    have t2 : ((l.length : Int) == 0) = false := by simp; omega
    have t3 : ((dg l (l.length - 1) : Int) != 0) = false := by simp; omega
    have H2 := Lib.hid h2
    clear hv h0 h2
    go_enter Tryz.func118, Tryz.ntmps118
    go_wp2
    go_ret
    exact ⟨ret_bool HV.out.symm, rfl⟩
  · have HV := Lib.hid hv
    have hp : 0 < l.length := List.length_pos_iff.2 h0
    obtain ⟨b, off, rfl, hb, hc⟩ := h.at_ (i := l.length - 1) (by omega)
    have t1 : decide ((l.length : Int) ≤ 16) = true := by simp; omega
    have t2 : ((l.length : Int) == 0) = false := by simp; omega
    have t3 : ((dg l (l.length - 1) : Int) != 0) = true := by simp; omega
    have t4 : ((dg l (l.length - 1) : Int) == 0) = false := by simp; omega
    have H2 := Lib.hid h2
    clear hv h0 h2
    go_enter Tryz.func118, Tryz.ntmps118
    go_wp2
    go_ret
    exact ⟨ret_bool HV.out.symm, rfl⟩
set_option maxHeartbeats 1000000 in
theorem valid1_any (A : Option Addr) (c : Nat) (l : List Nat) (w : World) {n : Nat} (hn : l.length = n) (h : NR w A c l) :
    Calls Tryz.prog 89 #[.slice A n c] w fun e w' => e = .returned (.bool (!validB l)) ∧ w = w' := by
  subst hn
  have hlen : (l.length : Int) ≤ 35184372088832 := int_le_of h.len
  rcases validB_ways l with ⟨h1, hv⟩ | ⟨h1, hv⟩ | ⟨h0, h1, h2, hv⟩ | ⟨h0, h1, h2, hv⟩
  · have HV := Lib.hid hv
    have t1 : decide ((16 : Int) < l.length) = true := by simp; omega
    clear hv h1
    go_enter Tryz.func89, Tryz.ntmps89
    go_wp2
    go_ret
    exact ⟨ret_bool (by rw [HV.out]; rfl), rfl⟩
  · have HV := Lib.hid hv
    subst h1
    clear hv
    go_enter Tryz.func89, Tryz.ntmps89
    go_wp2
    go_ret
    exact ⟨ret_bool (by rw [HV.out]; rfl), rfl⟩
  · have HV := Lib.hid hv
    have hp : 0 < l.length := List.length_pos_iff.2 h0
    obtain ⟨b, off, rfl, hb, hc⟩ := h.at_ (i := l.length - 1) (by omega)
    have t1 : decide ((16 : Int) < l.length) = false := by simp; omega
    have t2 : decide ((0 : Int) < l.length) = true := by simp; omega
    have t3 : ((dg l (l.length - 1) : Int) == 0) = true := by simp; omega
    have H2 := Lib.hid h2
    clear hv h0 h2
    go_enter Tryz.func89, Tryz.ntmps89
    go_wp2
    go_ret
    exact ⟨ret_bool (by rw [HV.out]; rfl), rfl⟩
  · have HV := Lib.hid hv
    have hp : 0 < l.length := List.length_pos_iff.2 h0
    obtain ⟨b, off, rfl, hb, hc⟩ := h.at_ (i := l.length - 1) (by omega)
    have t1 : decide ((16 : Int) < l.length) = false := by simp; omega
    have t2 : decide ((0 : Int) < l.length) = true := by simp; omega
    have t4 : ((dg l (l.length - 1) : Int) == 0) = false := by simp; omega
    have H2 := Lib.hid h2
    clear hv h0 h2
    go_enter Tryz.func89, Tryz.ntmps89
    go_wp2
    go_ret
    exact ⟨ret_bool (by rw [HV.out]; rfl), rfl⟩

/-- The first m cells of block g are the numbers f. -/
def Nums (w : World) (g m : Nat) (f : Nat → Option Addr × Nat × List Nat) : Prop :=
  ∀ i, i < m → w.cell? ⟨g, i, none⟩ = some (.slice (f i).1 (f i).2.2.length (f i).2.1) ∧ NR w (f i).1 (f i).2.1 (f i).2.2
/-- The index of the first number that is not valid, or -1. -/
def badI (m : Nat) (f : Nat → Option Addr × Nat × List Nat) (r : Int) : Prop :=
  (r = -1 ∧ ∀ i, i < m → validB (f i).2.2 = true) ∨ (0 ≤ r ∧ ∃ i, i < m ∧ validB (f i).2.2 = false)

theorem first_bad {p : Nat → Bool} : ∀ (m : Nat), (∃ i, i < m ∧ p i = false) → ∃ k, k < m ∧ p k = false ∧ ∀ j, j < k → p j = true
  | 0, h => by obtain ⟨i, hi, _⟩ := h; omega
  | m + 1, h => by
    by_cases h2 : ∃ i, i < m ∧ p i = false
    · obtain ⟨k, h3, h4, h5⟩ := first_bad m h2
      exact ⟨k, by omega, h4, h5⟩
    · obtain ⟨i, hi, hp⟩ := h
      have e : i = m := by
        rcases Nat.lt_or_ge i m with h' | h'
        · exact absurd ⟨i, h', hp⟩ h2
        · omega
      subst e
      exact ⟨i, by omega, hp, fun j hj => by
        cases hv : p j
        · exact absurd ⟨j, hj, hv⟩ h2
        · rfl⟩

set_option maxHeartbeats 1000000 in
theorem IndexFunc_any (g m c : Nat) (f : Nat → Option Addr × Nat × List Nat) (w : World) (hm : m ≤ 1000000) (h : Nums w g m f) :
    ∃ r : Int, badI m f r ∧ Calls Tryz.prog 110 #[.slice (some ⟨g, 0, none⟩) m c, .func (.func 89) #[] #[]] w fun e w' => e = .returned (.int .i64 r) ∧ w = w' := by
  have hm2 : (m : Int) ≤ 1000000 := int_le_of hm
  have H := Lib.hid h
  by_cases hall : ∀ i, i < m → validB (f i).2.2 = true
  · refine ⟨-1, .inl ⟨rfl, hall⟩, ?_⟩
    have HA := Lib.hid hall
    clear hall h
    go_enter Tryz.func110, Tryz.ntmps110
    go_wp2_with fail
    go_loop [8] (fun vk => ∃ k : Nat, k ≤ m ∧ vk = .int .i64 k) (fun vk => m - (intOf vk).toNat)
    case atStart => exact ⟨0, by omega, rfl⟩
    case round =>
      obtain ⟨k, hk, rfl⟩ := hrel
      by_cases hkn : k < m
      · obtain ⟨h1, h2⟩ := H.out k hkn
        have hv := HA.out k hkn
        generalize f k = x at *
        obtain ⟨A, ca, l⟩ := x
        dsimp only at h1 h2 hv
        go_wp2_with (go_at_call 89; refine (valid1_any A ca l _ rfl h2).mono ?_; rintro e w' ⟨rfl, rfl⟩; rw [hv])
        go_round
        case rel => exact ⟨k + 1, by omega, by go_num⟩
        case measure => simp [intOf]; omega
      · go_wp2_with fail
        go_ret
        exact ⟨rfl, rfl⟩
  · obtain ⟨k0, hk0, hb0, hlt⟩ := first_bad (p := fun i => validB (f i).2.2) m (by
      apply Classical.byContradiction
      intro hno
      exact hall fun i hi => by
        cases hv : validB (f i).2.2
        · exact absurd ⟨i, hi, hv⟩ hno
        · rfl)
    refine ⟨k0, .inr ⟨by omega, k0, hk0, hb0⟩, ?_⟩
    have HA := Lib.hid hlt
    clear hall h hlt
    go_enter Tryz.func110, Tryz.ntmps110
    go_wp2_with fail
    go_loop [8] (fun vk => ∃ k : Nat, k ≤ k0 ∧ vk = .int .i64 k) (fun vk => k0 - (intOf vk).toNat)
    case atStart => exact ⟨0, by omega, rfl⟩
    case round =>
      obtain ⟨k, hk, rfl⟩ := hrel
      by_cases hkn : k < k0
      · have hkm : k < m := by omega
        obtain ⟨h1, h2⟩ := H.out k hkm
        have hv := HA.out k hkn
        generalize f k = x at *
        obtain ⟨A, ca, l⟩ := x
        dsimp only at h1 h2 hv
        go_wp2_with (go_at_call 89; refine (valid1_any A ca l _ rfl h2).mono ?_; rintro e w' ⟨rfl, rfl⟩; rw [hv])
        go_round
        case rel => exact ⟨k + 1, by omega, by go_num⟩
        case measure => simp [intOf]; omega
      · obtain rfl : k = k0 := by omega
        obtain ⟨h1, h2⟩ := H.out k hk0
        generalize f k = x at *
        obtain ⟨A, ca, l⟩ := x
        dsimp only at h1 h2 hb0
        go_wp2_with (go_at_call 89; refine (valid1_any A ca l _ rfl h2).mono ?_; rintro e w' ⟨rfl, rfl⟩; rw [hb0])
        go_ret
        exact ⟨rfl, rfl⟩

set_option maxHeartbeats 1000000 in
theorem valid_any (g m c : Nat) (f : Nat → Option Addr × Nat × List Nat) (w : World) (hm : m ≤ 1000000) (h : Nums w g m f) :
    ∃ v : Bool, (v = true ↔ ∀ i, i < m → validB (f i).2.2 = true) ∧ Calls Tryz.prog 57 #[.slice (some ⟨g, 0, none⟩) m c] w fun e w' => e = .returned (.bool v) ∧ w = w' := by
  obtain ⟨r, hr, hc⟩ := IndexFunc_any g m c f w hm h
  refine ⟨decide (r < 0), ?_, ?_⟩
  · rw [decide_eq_true_eq]
    rcases hr with ⟨rfl, h1⟩ | ⟨h0, i, hi, hv⟩
    · exact ⟨fun _ => h1, fun _ => by omega⟩
    · exact ⟨fun h => by omega, fun h => by have := h i hi; rw [hv] at this; cases this⟩
  · have HC := Lib.hid hc
    clear hr hc
    have HG : Calls Tryz.prog 88 #[.slice (some ⟨g, 0, none⟩) m c, .func (.func 89) #[] #[]] w fun e w' => e = .returned (.bool (decide (0 ≤ r))) ∧ w = w' := by
      go_enter Tryz.func88, Tryz.ntmps88
      go_wp2_with (go_at_call 110; refine HC.out.mono ?_; rintro e w' ⟨rfl, rfl⟩)
      go_ret
      exact ⟨rfl, rfl⟩
    have HG2 := Lib.hid HG
    clear HG
    go_enter Tryz.func57, Tryz.ntmps57
    go_wp2_with (go_at_call 88; refine HG2.out.mono ?_; rintro e w' ⟨rfl, rfl⟩)
    go_ret
    exact ⟨ret_bool (by rw [Bool.eq_iff_iff]; simp), rfl⟩
/-- Two numbers in a block of the call's own. -/
theorem valid_two (A : Option Addr) (ca : Nat) (a : List Nat) (Bd : Option Addr) (cb : Nat) (b : List Nat) (w : World) {na nb : Nat} (hna : a.length = na) (hnb : b.length = nb) (ha : NR w A ca a) (hb : NR w Bd cb b) (t : TypeId) :
    Calls Tryz.prog 57 #[.slice (some ⟨w.heap.size, 0, none⟩) 2 2] (w.alloc (.cells #[.slice A na ca, .slice Bd nb cb] t)) fun e w' => e = .returned (.bool (validB a && validB b)) ∧ w.alloc (.cells #[.slice A na ca, .slice Bd nb cb] t) = w' := by
  subst hna hnb
  have hN : Nums (w.alloc (.cells #[.slice A a.length ca, .slice Bd b.length cb] t)) w.heap.size 2 (fun i => if i = 0 then (A, ca, a) else (Bd, cb, b)) := fun i hi => by
    match i, hi with
    | 0, _ => exact ⟨by simp, ha.alloc _⟩
    | 1, _ => exact ⟨by simp, hb.alloc _⟩
  obtain ⟨v, hv, hc⟩ := valid_any w.heap.size 2 2 _ _ (by omega) hN
  have e : v = (validB a && validB b) := by
    rw [Bool.eq_iff_iff, hv, Bool.and_eq_true]
    exact ⟨fun h => ⟨h 0 (by omega), h 1 (by omega)⟩, fun h i hi => by
      match i, hi with
      | 0, _ => exact h.1
      | 1, _ => exact h.2⟩
  rw [← e]
  exact hc
/-- What 'limited' hands back of a number. -/
def limV (A : Option Addr) (n c : Nat) : Value := if n ≤ 16 then .tuple #[.slice A n c, .int .i64 0] else .tuple #[.slice none 0 0, .int .i64 4]
theorem limV_yes {A : Option Addr} {n c : Nat} (h : n ≤ 16) : limV A n c = .tuple #[.slice A n c, .int .i64 0] := by rw [limV, if_pos h]
theorem limV_no {A : Option Addr} {n c : Nat} (h : 16 < n) : limV A n c = .tuple #[.slice none 0 0, .int .i64 4] := by rw [limV, if_neg (by omega)]
set_option maxHeartbeats 400000 in
theorem limited_any (A : Option Addr) (n c : Nat) (w : World) : Calls Tryz.prog 81 #[.slice A n c] w fun e w' => e = .returned (limV A n c) ∧ w = w' := by
  by_cases h : n ≤ 16
  · have t1 : decide ((16 : Int) < n) = false := by simp; omega
    rw [limV_yes h]
    clear h
    go_enter Tryz.func81, Tryz.ntmps81
    go_wp2
    go_ret2
    exact ⟨rfl, rfl⟩
  · have t1 : decide ((16 : Int) < n) = true := by simp; omega
    rw [limV_no (by omega)]
    clear h
    go_enter Tryz.func81, Tryz.ntmps81
    go_wp2
    go_ret2
    exact ⟨rfl, rfl⟩
end Go.Proofs.YtchnaimpmegbkaaGreatDoor
