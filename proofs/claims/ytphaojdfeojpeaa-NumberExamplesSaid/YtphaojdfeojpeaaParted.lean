/-
  parted: the long division, where the divisor has two digits or more.
-/
import Derived.Test.YtphaojdfeojpeaaParted0
import Derived.Lib.SlBytesRow
import Derived.WalkMore
namespace Go.Proofs.Ytphaojdfeojpeaa
open Go.RowKit
set_option linter.unusedVariables false

/-- The shifted divisor: as many digits, the last one great. -/
theorem shifted_len {b : List Nat} {n s : Nat} (hd : Dig b) (hn : b.length = n) (h1 : 1 ≤ n) (hlo : 2147483648 ≤ dg b (n - 1) * 2 ^ s) (hhi : dg b (n - 1) * 2 ^ s < 4294967296) (hs : s ≤ 31) :
    (digs (val b * 2 ^ s)).length = n ∧ 2147483648 ≤ dg (digs (val b * 2 ^ s)) (n - 1) := by
  obtain ⟨m, rfl⟩ : ∃ m, n = m + 1 := ⟨n - 1, by omega⟩
  rw [Nat.add_sub_cancel] at *
  obtain ⟨t, ht, _, _, hp⟩ := pow_split hs
  have e1 : val b = val (b.take m) + 4294967296 ^ m * dg b m := by rw [← val_take_succ, List.take_of_length_le (by omega)]
  have h2 := val_take_lt hd m
  have hup : val b * 2 ^ s < 4294967296 ^ (m + 1) := by
    have h3 : val b < 4294967296 ^ m * (dg b m + 1) := by rw [Nat.mul_add]; omega
    have h4 : (dg b m + 1) * 2 ^ s ≤ 4294967296 := by
      rw [← ht, Nat.mul_comm] at hhi
      rw [← ht, Nat.mul_comm]
      exact Nat.mul_le_mul_left _ (Nat.lt_of_mul_lt_mul_left hhi)
    have h5 := Nat.mul_lt_mul_of_pos_right h3 (show 0 < 2 ^ s by omega)
    rw [Nat.mul_assoc] at h5
    have h6 := Nat.mul_le_mul_left (4294967296 ^ m) h4
    rw [Nat.pow_succ]
    omega
  have hdn : 4294967296 ^ m * 2147483648 ≤ val b * 2 ^ s := by
    have h3 := Nat.mul_le_mul_left (4294967296 ^ m) hlo
    rw [e1, Nat.add_mul, Nat.mul_assoc]
    omega
  have hl1 := digs_len_le hup
  have hl2 : m + 1 ≤ (digs (val b * 2 ^ s)).length := by
    rcases Nat.lt_or_ge m (digs (val b * 2 ^ s)).length with h | h
    · exact h
    · exfalso
      have := lt_of_digs_len h
      have : 4294967296 ^ m * 1 ≤ 4294967296 ^ m * 2147483648 := Nat.mul_le_mul_left _ (by omega)
      omega
  have hl : (digs (val b * 2 ^ s)).length = m + 1 := by omega
  refine ⟨hl, ?_⟩
  have hv := val_digs (val b * 2 ^ s)
  have h7 := val_div_pow (Dig.digs (val b * 2 ^ s)) m
  rw [hv, val_drop_succ, val_zero_of (l := (digs (val b * 2 ^ s)).drop (m + 1)) (fun i => by rw [dg_drop]; exact dg_out (by omega)), Nat.mul_zero, Nat.add_zero] at h7
  rw [← h7, Nat.le_div_iff_mul_le (Nat.pow_pos (by omega)), Nat.mul_comm]
  exact hdn
theorem box_keep {w w' : World} {k : Nat} {v : Value} (hb : Below w.heap.size w w') (hn : k < w.heap.size) (hc : w.cell? ⟨k, 0, none⟩ = some v) : w'.cell? ⟨k, 0, none⟩ = some v := (hb.cell (p := ⟨k, 0, none⟩) hn).trans hc
/-- The numbers behind the two shifts. -/
structure Shifted (w wx : World) (a b : List Nat) (na nb s : Nat) (vu vv : Value) : Prop where
  out : ∃ gu lu gv cv, vu = .slice (some ⟨gu, 0, none⟩) (na + 1) (na + 1) ∧ vv = .slice (some ⟨gv, 0, none⟩) nb cv ∧ BlkN wx gu lu ∧ lu.length = na + 1 ∧ val lu = val a * 2 ^ s ∧ dg lu na < 2147483648 ∧
    NR wx (some ⟨gv, 0, none⟩) cv (digs (val b * 2 ^ s)) ∧ gv ≠ gu ∧ w.heap.size ≤ gu ∧ Below w.heap.size w wx

/-- The part at j: a window of n + 1 digits. -/
theorem part_at (W : World) (g m j n : Nat) (h : j + n + 1 ≤ m) :
    (Instr.slice 41 (.slice (some ⟨g, 0, none⟩) m m) (some (.int .i64 (j : Int))) (some (.int .i64 ((j : Int) + n + 1))) none).run Try.prog W = .ok (.slice (some ⟨g, j, none⟩) (n + 1) (m - j)) W := by
  have := Lib.run_slice_window (P := Try.prog) W 41 85 Try.underlying41 Try.sizeOf85 g 0 m m j (j + n + 1) (by omega) h
  rw [show ((j + n + 1 : Nat) : Int) = (j : Int) + n + 1 from by omega, Nat.zero_add, show j + n + 1 - j = n + 1 from by omega] at this
  exact this
theorem Shifted.of {w w3 wx : World} {a b lA lB : List Nat} {na nb s gA gB : Nat} (hwx : Below w3.heap.size w3 wx) (hb : Below w.heap.size w w3) (kA : BlkN wx gA lA) (kB : BlkN wx gB lB) (hlA : lA.length = na + 1) (hsA : ShI a lA s na)
    (hlB : lB.length = nb + 1) (hsB : ShI b lB s nb) (Ha : a.length = na) (Hb : b.length = nb) (hne : gB ≠ gA) (hgA : w.heap.size ≤ gA) (hs : s ≤ 31) (hln : (digs (val b * 2 ^ s)).length = nb) (la : na ≤ 1048576) (lb : nb ≤ 1048576) :
    Shifted w wx a b na nb s (.slice (some ⟨gA, 0, none⟩) (na + 1) (na + 1)) (.slice (some ⟨gB, 0, none⟩) (digs (val lB)).length (nb + 1)) := by
  subst Ha Hb
  have eB : val lB = val b * 2 ^ s := hsB.fin
  obtain ⟨t, _, h1, _⟩ := pow_split hs
  have hn := (kB.nf (B := 0) (c := b.length + 1) (Nat.zero_le _) (by omega) (by omega) (by omega)).1.trim
  rw [eB] at hn ⊢
  exact ⟨gA, lA, gB, _, rfl, by rw [hln], kA, hlA, hsA.fin, Nat.lt_of_lt_of_le hsA.2.2.1 h1, hn, hne, hgA, hb.trans (hwx.mono hb.size)⟩

set_option maxHeartbeats 4000000 in
set_option maxRecDepth 100000 in
theorem parted_many (A : Option Addr) (ca : Nat) (a : List Nat) (Bd : Option Addr) (cb : Nat) (b : List Nat) (w : World) {na nb : Nat} (hna : a.length = na) (hnb : b.length = nb) (ha : NR w A ca a) (hb : NR w Bd cb b) (ta : Trm a) (tb : Trm b) (hl : val b ≤ val a) (h2 : 2 ≤ nb) (la : na ≤ 1048576) (lb : nb ≤ 1048576) :
    Calls Try.prog 75 #[.slice A na ca, .slice Bd nb cb] w fun e w' => PartOut w w' e (val a) (val b) := by
  have Ha := Lib.hid hna
  have Hb := Lib.hid hnb
  obtain ⟨z, hz, HZ⟩ : ∃ z : Int, z = cmpN (val a) (val b) ∧ decide (z < 0) = false := ⟨_, rfl, by rcases cmpN_cases (val a) (val b) with ⟨h, e⟩ | ⟨h, e⟩ | ⟨h, e⟩ <;> (try rw [e]) <;> first | omega | rfl⟩
  have HZ0 := Lib.hid hz
  have hb0 : Below w.heap.size w ((w.alloc (.cells #[.slice A na ca] 41)).alloc (.cells #[.slice Bd nb cb] 41)) := ((Below.refl _ _).alloc (Nat.le_refl _) _).alloc (by simp) _
  have Ra := Lib.hid (ha.below hb0)
  have Rb := Lib.hid (hb.below hb0)
  have h1 : ((nb : Int) == 1) = false := by simp; omega
  have h1' : (nb == 1) = false := by simp; omega
  have htop : dg b (nb - 1) ≠ 0 := by
    rcases tb with h | h
    · rw [h] at hnb; simp at hnb; omega
    · rwa [hnb] at h
  obtain ⟨s, hs, hsI, hs1, hs2⟩ := top_shift _ htop (dg_lt hb.dig _)
  obtain ⟨bb, off, rfl, hbb, hc0⟩ := hb.at_ (i := nb - 1) (by omega)
  have HSI := Lib.hid hsI
  have HS1 := Lib.hid hs1
  have HS2 := Lib.hid hs2
  have HL := Lib.hid hl
  have htd : (dg b (nb - 1) : Int) ≤ 4294967295 := by have := dg_lt hb.dig (nb - 1); omega
  clear hna hnb ha hb hl hz hs1 hs2 hsI htop
  go_enter Try.func75, Try.ntmps75
  go_wp2_with fail
  refine (order_any A ca a _ cb b _ Ha.out Hb.out Ra.out Rb.out ta tb).mono ?_
  rintro e w1 ⟨rfl, hb1⟩
  rw [← HZ0.out]
  have c2 : w1.cell? ⟨w.heap.size, 0, none⟩ = some (.slice A na ca) := (hb1.cell (p := ⟨w.heap.size, 0, none⟩) (by simp <;> omega)).trans (by simp)
  have c3 : w1.cell? ⟨w.heap.size + 1, 0, none⟩ = some (.slice (some ⟨bb, off, none⟩) nb cb) := (hb1.cell (p := ⟨w.heap.size + 1, 0, none⟩) (by simp <;> omega)).trans (by simp)
  have c4 : w1.cell? ⟨bb, off + (nb - 1), none⟩ = some (.int .u32 (dg b (nb - 1) : Nat)) := (hb1.cell (p := ⟨bb, _, none⟩) (Nat.lt_of_lt_of_le hbb hb0.size)).trans ((hb0.cell (p := ⟨bb, _, none⟩) hbb).trans hc0)
  clear hc0
  go_wp2_with fail
  refine (Try.bits_LeadingZeros32 _ w1 (by omega) (by omega)).mono ?_
  rintro e w2 ⟨rfl, rfl⟩
  rw [show ((dg b (nb - 1) : Int)).toNat = dg b (nb - 1) from rfl, HSI.out]
  go_upto_region 11 with fail
  go_cut [10, 11] from 64 to 70 (fun vu vv wx => Shifted w wx a b na nb s vu vv)
  case first =>
    have hsz : w.heap.size + 1 < w2.heap.size := Nat.lt_of_lt_of_le (by simp) hb1.size
    have hsz0 : w.heap.size < w2.heap.size := by omega
    have R2a := Lib.hid (Ra.out.below hb1)
    have R2b := Lib.hid (Rb.out.below hb1)
    have hb2 : Below w.heap.size w w2 := hb0.trans (hb1.mono hb0.size)
    obtain ⟨hlen, hbig⟩ := shifted_len Rb.out.dig Hb.out (by omega) HS1.out HS2.out hs
    have HLN := Lib.hid hlen
    clear hb1 hb0 Ra Rb hlen hbig HZ h1 h1'
    go_region_with (first | (go_at_call_of 109 na; go_loud (refine (shifted_any A ca a s _ Ha.out (by first | exact R2a.out.drew.below hbB | exact R2a.out.drew) hs).mono ?_; rintro e wA ⟨gA, lA, rfl, hkA, hlA, hsA, hgA, hbA⟩; first | have c3A := box_keep hbA szB c3B | have c3A := box_keep hbA hsz c3)) | (go_at_call_of 109 nb; go_loud (refine (shifted_any _ cb b s _ Hb.out (by first | exact R2b.out.drew.below hbA | exact R2b.out.drew) hs).mono ?_; rintro e wB ⟨gB, lB, rfl, hkB, hlB, hsB, hgB, hbB⟩; first | (have szB := Nat.lt_of_lt_of_le hsz hbB.size; have c2B := box_keep hbB hsz0 c2) | skip)) | (go_at_call 85; go_loud (refine (trim_any _ _ lB _ hlB (by first | exact (hkB.nf (B := 0) (Nat.zero_le _) (by omega) (by omega) (by omega)).1 | exact (hkB.nf (B := 0) (Nat.zero_le _) (by omega) (by omega) (by omega)).1.below hbA)).mono ?_; rintro e wT ⟨rfl, rfl⟩)))
    all_goals
      go_wp2_with fail
      go_meet
      have hsw := hb2.size
      first
        | exact Shifted.of (hbA.trans (hbB.mono hbA.size)) hb2.drew (hkA.below' hbB) hkB hlA hsA hlB hsB Ha.out Hb.out (by have := hkA.lt; omega) (by have : w2.heap.size ≤ gA := hgA; omega) hs HLN.out la lb
        | exact Shifted.of (hbB.trans (hbA.mono hbB.size)) hb2.drew hkA (hkB.below' hbA) hlA hsA hlB hsB Ha.out Hb.out (by have := hkB.lt; omega) (by have h1 : w2.heap.size ≤ wB.heap.size := hbB.size; omega) hs HLN.out la lb
  case rest =>
    obtain ⟨gu, lu, gv, cv, rfl, rfl, hku, hlu, hvu, hdu, hnv, hne, hgu, hbx⟩ := hcut.out
    clear hcut
    have Ev : Hid (val (digs (val b * 2 ^ s)) = val b * 2 ^ s) := val_digs _
    obtain ⟨hlen, hbig⟩ := shifted_len Rb.out.dig Hb.out (by omega) HS1.out HS2.out hs
    generalize digs (val b * 2 ^ s) = v at *
    have HVL := Lib.hid hlen
    have HVB := Lib.hid hbig
    have hnba : nb ≤ na := by have := len_le_of_val Ra.out.dig tb HL.out; have := Ha.out; have := Hb.out; omega
    have HU0 := Lib.hid hku
    have HLU := Lib.hid hlu
    have HVU := Lib.hid hvu
    have HDU := Lib.hid hdu
    have HNV := Lib.hid hnv
    obtain ⟨gv', of', ev, hgv, hcv1⟩ := hnv.at_ (i := nb - 1) (by omega)
    obtain ⟨rfl, rfl⟩ : gv = gv' ∧ 0 = of' := by injection ev with ev; injection ev with e1 e2; exact ⟨e1, e2⟩
    obtain ⟨_, _, ev', _, hcv2⟩ := hnv.at_ (i := nb - 2) (by omega)
    obtain ⟨rfl, rfl⟩ := (by injection ev' with ev'; injection ev' with e1 e2; exact ⟨e1, e2⟩ : gv = _ ∧ 0 = _)
    rw [Nat.zero_add] at hcv1 hcv2
    have t1 : (dg v (nb - 1) : Int) ≤ 4294967295 := by have := dg_lt hnv.dig (nb - 1); omega
    have t2 : (dg v (nb - 2) : Int) ≤ 4294967295 := by have := dg_lt hnv.dig (nb - 2); omega
    have t3 : (2147483648 : Int) ≤ (dg v (nb - 1) : Int) := by omega
    have hgl := hku.lt
    clear hlen hbig hku hlu hvu hdu hnv ev ev' HZ h1 h1' hb0 hb1 c2 c3 c4 HZ0 HSI htd
    go_wp2_with fail
    go_region
    go_wp2_with (at_make; refine wpList_make_nat _ rfl _ _ rfl (na + 1 - nb) rfl rfl (by omega) (by omega) (by omega) ?_; intro w3 hk3 hb3 hs3)
    have HQ0 : Hid (BlkN w3 wc.heap.size (List.replicate (na + 1 - nb) 0)) := hk3
    have hb3' : Below wc.heap.size wc.drew w3 := hb3
    obtain ⟨gq, hgq⟩ : ∃ gq, wc.heap.size = gq := ⟨_, rfl⟩
    rw [hgq] at HQ0 hb3' ⊢
    have hgl2 : gu < gq := by omega
    have hgv2 : gv < gq := by omega
    have hgq0 : w.heap.size ≤ gq := by omega
    have HQU : Hid (gq ≠ gu) := by unfold Hid; omega
    have HQV : Hid (gq ≠ gv) := by unfold Hid; omega
    have hnq : (((na + 1 - nb : Nat)) : Int) = (na : Int) + 1 - nb := by omega
    obtain ⟨nq, hnq2⟩ : ∃ nq, na + 1 - nb = nq := ⟨_, rfl⟩
    rw [hnq2] at HQ0 hnq ⊢
    have hbw : Below w.heap.size w w3 := (hbx.drew).trans (hb3'.mono (by have := hbx.size; omega))
    have HU3 : Hid (BlkN w3 gu lu) := BlkN.below HU0.out.drew hb3' hgl2
    have HV3 : Hid (NR w3 (some ⟨gv, 0, none⟩) cv v) := (HNV.out.drew).below (by show Below wc.heap.size wc.drew w3; rw [hgq]; exact hb3')
    have hP0 : Hid (PartI (val a * 2 ^ s) (val v) lu (List.replicate nq 0) nq) := by
      refine ⟨HU0.out.2, Dig.replicate _, ?_, ?_⟩
      · rw [List.drop_of_length_le (by simp), HVU.out]; simp [val]
      · exact first_less HU0.out.2 (by omega) HVL.out (by have := HLU.out; omega) HVB.out (by have := HDU.out; rwa [HLU.out])
    have hVn : Hid (val v < 4294967296 ^ nb) := by have := val_lt HNV.out.dig; rwa [HVL.out] at this
    have Vpos : Hid (0 < val v) := by have := HVB.out; have := pow_le_val (l := v) (.inr (by rw [HVL.out]; omega)) (by intro e; have := HVL.out; rw [e] at this; simp at this; omega); have h : 0 < 4294967296 ^ (v.length - 1) := Nat.pow_pos (by omega); exact Nat.lt_of_lt_of_le h this
    clear hgq hb3 hb3' hs3 hcv1 hcv2 hk3 hnq
    go_loopg [15] nq (fun k vj wr => k ≤ nq ∧ vj = .int .i64 ((k : Int) - 1) ∧ ∃ u q, Hid (PartI (val a * 2 ^ s) (val v) u q k) ∧ Hid (u.length = na + 1) ∧ Hid (q.length = nq) ∧ Hid (BlkN wr gu u) ∧ Hid (BlkN wr gq q) ∧ Hid (NR wr (some ⟨gv, 0, none⟩) cv v) ∧ Below w.heap.size w wr)
    case atStart =>
      exact ⟨Nat.le_refl _, int_cong (by omega), lu, _, hP0.out, HLU.out, by simp [Hid], HU3.out, HQ0.out, HV3.out, hbw⟩
    case round =>
      obtain ⟨hk, rfl, u, q, HP, HL, HLQ, HB, HBQ, HV, hbel⟩ := hrel
      obtain ⟨wo, rfl⟩ : ∃ wo : World, wo = wr := ⟨_, rfl⟩
      by_cases h0 : 0 < gk
      · obtain ⟨j, rfl⟩ : ∃ j, gk = j + 1 := ⟨gk - 1, by omega⟩
        have e1 : ((j + 1 : Nat) : Int) - 1 = j := by omega
        rw [e1]
        clear e1
        have hsl := part_at wo gu (na + 1) j nb (by omega)
        have hj2 : (j : Int) + nb + 1 ≤ (na : Int) + 1 := by omega
        go_wp2_with fail
        have uc1 := HB.out.cell (i := j + nb) (by have := HL.out; omega)
        have uc2 := HB.out.cell (i := j + (nb - 1)) (by have := HL.out; omega)
        have uc3 := HB.out.cell (i := j + (nb - 2)) (by have := HL.out; omega)
        have ub1 : (dg u (j + nb) : Int) ≤ 4294967295 := by have := dg_lt HB.out.2 (j + nb); omega
        have ub2 : (dg u (j + (nb - 1)) : Int) ≤ 4294967295 := by have := dg_lt HB.out.2 (j + (nb - 1)); omega
        have ub3 : (dg u (j + (nb - 2)) : Int) ≤ 4294967295 := by have := dg_lt HB.out.2 (j + (nb - 2)); omega
        have HE := Lib.hid (HP.out.est HV.out.dig rfl h2 HVL.out (by have := HL.out; omega) HVB.out)
        have HH := Lib.hid (u64_hilo (dg_lt HB.out.2 (j + nb)) (dg_lt HB.out.2 (j + (nb - 1))))
        have HHL := Lib.hid HE.out.high_lt
        go_step3
        go_wp2_with fail
        go_region
        go_wp2_with fail
        rw [HH.out]
        generalize hhd : dg u (j + nb) * 4294967296 + dg u (j + (nb - 1)) = high at *
        have hh1 : (high : Int) ≤ 18446744073709551615 := by have := HHL.out; omega
        have hh2 : (high : Int) / (dg v (nb - 1) : Int) ≤ 18446744073709551615 := by
          rw [quo_castk]
          have := Nat.div_le_self high (dg v (nb - 1))
          generalize high / dg v (nb - 1) = z at *
          omega
        have hh3 : 0 ≤ (high : Int) / (dg v (nb - 1) : Int) := by rw [quo_castk]; exact Int.natCast_nonneg _
        have hh4 : ((dg v (nb - 1) : Int) == 0) = false := by simp; omega
        have hh5 : (dg v (nb - 1) : Int) ≠ 0 := by omega
        clear hhd
        go_region
        go_wp2_with fail
        go_step3
        go_upto_block 4 with fail
        go_cut [18, 19] from 94 to 167 (fun vx vr wx => ∃ x r : Nat, vx = .int .u64 x ∧ vr = .int .u64 r ∧ Hid (x < 4294967296 ∧ val (seg u j (nb + 1)) / val v ≤ x ∧ x ≤ val (seg u j (nb + 1)) / val v + 1) ∧ wx = wo.drew.drew)
        case first =>
          go_wp2_with fail
          go_loopg [18, 19] (high / dg v (nb - 1)) (fun g vx vr wx => ∃ r : Nat, vx = .int .u64 g ∧ vr = .int .u64 r ∧ Hid (g * dg v (nb - 1) + r = high) ∧ Hid (val (seg u j (nb + 1)) / val v ≤ g) ∧ Hid (r < 4294967296) ∧ wx = wo.drew.drew)
          case atStart =>
            refine ⟨high % dg v (nb - 1), int_cong (quo_castk _ _), int_cong (emod_cast _ _), ?_, HE.out.start, ?_, rfl⟩
            · have := Nat.div_add_mod high (dg v (nb - 1)); rw [Nat.mul_comm] at this; exact this
            · have := Nat.mod_lt high (y := dg v (nb - 1)) (by omega); unfold Hid; omega
          case round =>
            obtain ⟨r, rfl, rfl, HX, HQT, HR, rfl⟩ := hrel
            have HGL : Hid (gk ≤ high) := by
              have h1 := HX.out
              have h2 := Nat.mul_le_mul_left gk (show 1 ≤ dg v (nb - 1) by omega)
              unfold Hid; omega
            have x1 : (gk : Int) ≤ 18446744073709551615 := by have := HGL.out; omega
            have x2 : (r : Int) ≤ 4294967295 := by have := HR.out; omega
            have HOR := Lib.hid (u64_hilo HR.out (dg_lt HB.out.2 (j + (nb - 2))))
            obtain ⟨y, hy⟩ : ∃ y, r * 4294967296 + dg u (j + (nb - 2)) = y := ⟨_, rfl⟩
            rw [hy] at HOR
            have HY := Lib.hid hy
            have hor := HOR.out
            have uc3' : wo.drew.drew.cell? ⟨gu, j + (nb - 2), none⟩ = some (.int .u32 (dg u (j + (nb - 2)) : Nat)) := uc3
            clear hy
            by_cases hxB : gk < 4294967296
            · have s1 : ((gk : Int) / 4294967296 == 0) = true := by simp; omega
              have s1' : (gk : Int) / 4294967296 = 0 := by omega
              have q4 : (gk : Int) * dg v (nb - 2) ≤ 18446744065119617025 := by rw [← Int.natCast_mul]; have := Nat.mul_le_mul (show gk ≤ 4294967295 by omega) (show dg v (nb - 2) ≤ 4294967295 by omega); omega
              have q5 : 0 ≤ (gk : Int) * dg v (nb - 2) := by rw [← Int.natCast_mul]; omega
              by_cases ht : gk * dg v (nb - 2) ≤ y
              · have s2 : decide ((gk : Int) * dg v (nb - 2) ≤ (y : Int)) = true := by rw [decide_eq_true_eq, ← Int.natCast_mul]; omega
                have HO := Lib.hid (HE.out.out1 HX.out hxB (by have := HY.out; omega))
                have HXB := Lib.hid hxB
                clear ht
                go_wp2_with fail
                go_meet
                exact ⟨gk, r, rfl, rfl, ⟨HXB.out, HQT.out, HO.out⟩, rfl⟩
              · have s2 : decide ((gk : Int) * dg v (nb - 2) ≤ (y : Int)) = false := by rw [← Int.natCast_mul]; simp only [decide_eq_false_iff_not]; omega
                obtain ⟨y1, y2⟩ := HE.out.down HX.out HQT.out (.inr (by have := HY.out; omega))
                have HD := Lib.hid y2
                have HX2 : Hid ((gk - 1) * dg v (nb - 1) + (r + dg v (nb - 1)) = high) := by
                  have := HX.out
                  obtain ⟨m, rfl⟩ : ∃ m, gk = m + 1 := ⟨gk - 1, by omega⟩
                  rw [Nat.add_mul] at this
                  unfold Hid
                  simp only [Nat.add_sub_cancel]
                  omega
                clear y2 ht
                by_cases hr : r + dg v (nb - 1) < 4294967296
                · have s3 : (((r : Int) + dg v (nb - 1)) / 4294967296 != 0) = false := by simp; omega
                  have HR2 := Lib.hid hr
                  go_wp2_with fail
                  go_roundg (gk - 1)
                  case measure => omega
                  case rel => exact ⟨r + dg v (nb - 1), int_cong (by omega), int_cong (by omega), HX2.out, HD.out, HR2.out, rfl⟩
                · have s3 : (((r : Int) + dg v (nb - 1)) / 4294967296 != 0) = true := by simp; omega
                  have HO2 := Lib.hid (HE.out.out2 HX2.out (by omega))
                  have HO := Lib.hid (HE.out.out1 HX2.out HO2.out.1 HO2.out.2)
                  go_wp2_with fail
                  go_meet
                  exact ⟨gk - 1, r + dg v (nb - 1), int_cong (by omega), int_cong (by omega), ⟨HO2.out.1, HD.out, HO.out⟩, rfl⟩
            · have s1 : ((gk : Int) / 4294967296 == 0) = false := by simp; omega
              obtain ⟨y1, y2⟩ := HE.out.down HX.out HQT.out (.inl (by omega))
              have HD := Lib.hid y2
              have HX2 : Hid ((gk - 1) * dg v (nb - 1) + (r + dg v (nb - 1)) = high) := by
                have := HX.out
                obtain ⟨m, rfl⟩ : ∃ m, gk = m + 1 := ⟨gk - 1, by omega⟩
                rw [Nat.add_mul] at this
                unfold Hid
                simp only [Nat.add_sub_cancel]
                omega
              clear y2
              by_cases hr : r + dg v (nb - 1) < 4294967296
              · have s3 : (((r : Int) + dg v (nb - 1)) / 4294967296 != 0) = false := by simp; omega
                have HR2 := Lib.hid hr
                go_wp2_with fail
                go_roundg (gk - 1)
                case measure => omega
                case rel => exact ⟨r + dg v (nb - 1), int_cong (by omega), int_cong (by omega), HX2.out, HD.out, HR2.out, rfl⟩
              · have s3 : (((r : Int) + dg v (nb - 1)) / 4294967296 != 0) = true := by simp; omega
                have HO2 := Lib.hid (HE.out.out2 HX2.out (by omega))
                have HO := Lib.hid (HE.out.out1 HX2.out HO2.out.1 HO2.out.2)
                go_wp2_with fail
                go_meet
                exact ⟨gk - 1, r + dg v (nb - 1), int_cong (by omega), int_cong (by omega), ⟨HO2.out.1, HD.out, HO.out⟩, rfl⟩
        case rest =>
          obtain ⟨x, r, rfl, rfl, HXX, rfl⟩ := hcut
          have x1 : (x : Int) ≤ 4294967295 := by have := HXX.out.1; omega
          have HBD : Hid (BlkN wo.drew.drew gu u) := HB.out
          have HVD : Hid (NR wo.drew.drew (some ⟨gv, 0, none⟩) cv v) := HV.out.drew.drew
          have hfar : Far gu (some ⟨gv, 0, none⟩) v := fun _ b' o' e => by injection e with e; injection e with e1 _; omega
          have hfarq : Far gq (some ⟨gv, 0, none⟩) v := fun _ b' o' e => by injection e with e; injection e with e1 _; omega
          go_wp2_with fail
          refine (subtract_any gu j (nb + 1) _ u _ cv v x _ HBD.out (by have := HL.out; omega) (by have := HL.out; omega) (by omega) HVL.out HVD.out hfar (by omega) HXX.out.1).mono ?_
          rintro e w4 ⟨u4, b4, rfl, hk4, hi4, hon4⟩
          have hfin4 := hi4.fin HVD.out.dig (by have := HVL.out; omega)
          have hb41 := hi4.2.2.2.1
          have hs4 := seg_lt hk4.2 j (nb + 1)
          have hW := seg_lt HB.out.2 j (nb + 1)
          have HK4 := Lib.hid hk4
          have HI4 := Lib.hid hi4
          have R4 : Hid (NR w4 (some ⟨gv, 0, none⟩) cv v) := HVD.out.only hfar hon4
          have Q4 : Hid (BlkN w4 gq q) := ⟨(hon4.block gq HQU.out).trans HBQ.out.1, HBQ.out.2⟩
          have bel4 : Below w.heap.size w w4 := (hbel.drew.drew).trans (hon4.below hgu)
          rcases (by omega : b4 = 0 ∨ b4 = 1) with rfl | rfl
          · obtain ⟨d1, d2, d3⟩ := digit_exact Vpos.out hW (by omega) hs4 hfin4 HXX.out.2.1 rfl
            have HS := Lib.hid (HP.out.step HK4.out.2 HXX.out.1 (by have := HLQ.out; omega) HI4.out.2.1 (by have := HL.out; omega) hVn.out HI4.out.2.2.2.2.2.1 d3 d2)
            have hcell := Q4.out.cell (i := j) (by have := HLQ.out; omega)
            have hfr := Q4.out.frozen j
            have HBS := Lib.hid (Q4.out.set j HXX.out.1)
            clear hk4 hi4 hfin4 hs4 hW d1 d2 d3 hon4
            go_wp2_with fail
            rw [Exit.noGoto_normal]
            go_wp2_with fail
            go_roundg j
            case measure => omega
            case rel => exact ⟨by omega, int_cong (by omega), u4, _, HS.out, by have := HI4.out.2.1; have := HL.out; unfold Hid; omega, by have := HLQ.out; simp [Hid, this], ⟨(Below.heap_setCell w4 ⟨gq, j, none⟩ _ gu (fun e => HQU.out e.symm)).trans HK4.out.1, HK4.out.2⟩, HBS.out, R4.out.only hfarq ((Only.refl gq w4).setCell j _), bel4.setCell (p := ⟨gq, j, none⟩) hgq0 _⟩
          · have hx1 : 1 ≤ x := by
              rcases Nat.eq_zero_or_pos x with h | h
              · subst h; omega
              · exact h
            clear hk4 hi4 hon4
            go_wp2_with fail
            refine (giveBack_any gu j (nb + 1) _ u4 _ cv v _ HK4.out (by have := HI4.out.2.1; have := HL.out; omega) (by have := HI4.out.2.1; have := HL.out; omega) (by omega) HVL.out R4.out hfar (by omega)).mono ?_
            rintro e w5 ⟨u5, b5, y5, rfl, hk5, hi5, hon5⟩
            have hfin5 := hi5.fin (by have := HVL.out; omega)
            have hs5 := seg_lt hk5.2 j (nb + 1)
            have hVM : val v < 4294967296 ^ (nb + 1) := Nat.lt_trans hVn.out (Nat.pow_lt_pow_right (by omega) (by omega))
            obtain ⟨d1, d2, d3⟩ := digit_back Vpos.out hVM hW hs4 hfin4 HXX.out.2.2 rfl hi5.2.2.1 hs5 hfin5
            have HK5 := Lib.hid hk5
            have HI5 := Lib.hid hi5
            have hx2 : x - 1 < 4294967296 := by have := HXX.out.1; omega
            have HS := Lib.hid (HP.out.step HK5.out.2 hx2 (by have := HLQ.out; omega) (HI5.out.2.1.trans HI4.out.2.1) (by have := HL.out; omega) hVn.out (fun p hp => (HI5.out.2.2.2.1 p hp).trans (HI4.out.2.2.2.2.2.1 p hp)) d3 d2)
            have R5 : Hid (NR w5 (some ⟨gv, 0, none⟩) cv v) := R4.out.only hfar hon5
            have Q5 : Hid (BlkN w5 gq q) := ⟨(hon5.block gq HQU.out).trans Q4.out.1, Q4.out.2⟩
            have bel5 : Below w.heap.size w w5 := bel4.trans (hon5.below hgu)
            have hcell := Q5.out.cell (i := j) (by have := HLQ.out; omega)
            have hfr := Q5.out.frozen j
            have HBS := Lib.hid (Q5.out.set j hx2)
            have ecx : Hid (((x - 1 : Nat) : Int) = (x : Int) - 1) := by unfold Hid; omega
            rw [ecx.out] at HBS
            clear hk5 hi5 hfin4 hfin5 hs4 hs5 hW d1 d2 d3 hon5 hVM hx2
            go_wp2_with fail
            rw [Exit.noGoto_normal]
            go_wp2_with fail
            go_roundg j
            case measure => omega
            case rel => exact ⟨by omega, int_cong (by omega), u5, _, HS.out, by have := HI5.out.2.1; have := HI4.out.2.1; have := HL.out; unfold Hid; omega, by have := HLQ.out; simp [Hid, this], ⟨(Below.heap_setCell w5 ⟨gq, j, none⟩ _ gu (fun e => HQU.out e.symm)).trans HK5.out.1, HK5.out.2⟩, HBS.out, R5.out.only hfarq ((Only.refl gq w5).setCell j _), bel5.setCell (p := ⟨gq, j, none⟩) hgq0 _⟩
      · obtain rfl : gk = 0 := by omega
        obtain ⟨hq, hr⟩ := HP.out.fin
        have HQV := Lib.hid hq
        have HRV := Lib.hid hr
        clear hq hr
        have nfq := HBQ.out.nf (B := w.heap.size) (c := nq) hgq0 (by have := HLQ.out; omega) (by omega) (by have := HLQ.out; omega)
        have nfu := HB.out.nf (B := w.heap.size) (c := na + 1) hgu (by have := HL.out; omega) (by omega) (by have := HL.out; omega)
        go_wp2_with fail
        refine (trim_any _ _ q _ HLQ.out nfq.1).mono ?_
        rintro e w4 ⟨rfl, rfl⟩
        go_wp2_with fail
        refine (trim_any _ _ u _ HL.out nfu.1).mono ?_
        rintro e w4 ⟨rfl, rfl⟩
        go_wp2_with fail
        refine (unshifted_any _ _ (digs (val u)) s _ rfl nfu.1.trim hs).mono ?_
        rintro e w5 ⟨R, cr, rfl, hR, hb5⟩
        go_wp2_with fail
        go_ret2
        have nfq5 := (nfq.trim).below hb5
        rw [val_digs] at hR
        obtain ⟨f1, f2⟩ := shift_div (val a) (val b) (2 ^ s) (Nat.two_pow_pos s)
        have g1 : val q = val a / val b := by rw [HQV.out, Ev.out, f1]
        have g2 : val u / 2 ^ s = val a % val b := by rw [HRV.out, Ev.out, f2]
        rw [g1] at nfq5
        rw [g2] at hR
        refine ⟨_, _, _, _, tuple_two (by rw [g1]; rfl) (by rw [val_digs, g2]; rfl), nfq5, hR.mono hbel.size, ?_, hbel.trans (hb5.mono hbel.size)⟩
        intro n1 n2 g o h p e1 e2
        obtain ⟨h', p', e3, hB, _⟩ := hR.2 n2
        rw [e2] at e3
        injection e1 with e1
        injection e1 with e1
        injection e3 with e3
        injection e3 with e3
        have := HBQ.out.lt
        omega
end Go.Proofs.Ytphaojdfeojpeaa
