/-
  The law CodeFeasible: the walk.
-/
import Derived.Test.YtenpkmgbaajeeaaCodeFeasRef
import Derived.Test.YtenpkmgbaajeeaaRowsOwn
namespace Go.Proofs.Ytenpkmgbaajeeaa
open Go.RowKit Go.Shelf
set_option linter.unusedVariables false

set_option maxHeartbeats 1000000 in
theorem refFeasible_any (A : Option Addr) (c : Nat) (rs : List BRow) (Y : Option Addr) (d : Nat) (y : List UInt8) (w : World) {n m : Nat} (hn : rs.length = n) (hm : y.length = m) (h : RR w A c rs) (hy : BR w Y d y) :
    Calls Try.prog 7 #[.slice A n c, .slice Y m d] w fun e w' => e = .returned (.tuple #[.bool (feasS (rs.map BRow.l) y).1, .int .i64 (feasS (rs.map BRow.l) y).2]) ∧ Below w.heap.size w w' := by
  have HN := Lib.hid hn
  have HM := Lib.hid hm
  have H := Lib.hid h
  have HY := Lib.hid hy
  cases hok : okWords (rs.map BRow.l) with
  | false =>
    have HOK := Lib.hid hok
    have HS : Hid (feasS (rs.map BRow.l) y = (false, 2)) := okWords_no hok
    rw [HS.out]
    clear hn hm h hy hok
    go_enter Try.func7, Try.ntmps7
    go_wp2_with (go_at_call 26; refine (refWords_any A c rs _ HN.out H.out).mono ?_; rintro e w1 ⟨rfl, hb1⟩; rw [HOK.out])
    go_ret2
    exact ⟨rfl, hb1⟩
  | true =>
    have HOK := Lib.hid hok
    obtain ⟨o1, o2, o3, o4⟩ := okWords_parts hok
    rw [List.length_map, hn] at o1
    have hn0 : (0 : Int) < n := by omega
    obtain ⟨b, off, r0, rfl, hb, hr0, hc0, hR0⟩ := h.at_ (i := 0) (by omega)
    rw [Nat.add_zero] at hc0
    have e0 : Hid (hd (rs.map BRow.l) = r0.l) := row_l hr0
    have hl0 : (r0.l.length : Int) ≤ 140737488351232 := by have := hR0.len; omega
    obtain ⟨l0, hl⟩ : ∃ l0, r0.l.length = l0 := ⟨_, rfl⟩
    have HL := Lib.hid hl
    rw [hl] at hc0 hl0
    cases hcp : copyB y l0 with
    | false =>
      have HS : Hid (feasS (rs.map BRow.l) y = (false, 71)) := feasS_copy hok (by rw [e0.out, hl]; exact hcp)
      have HCP := Lib.hid hcp
      rw [HS.out]
      clear hn hm h hy hok o2 o3 o4 hr0 hl hcp
      go_enter Try.func7, Try.ntmps7
      go_wp2_with (first | (go_at_call 26; refine (refWords_any _ c rs _ HN.out H.out).mono ?_; rintro e w1 ⟨rfl, hb1⟩; rw [HOK.out]; have hc1 := (hb1.cell (p := ⟨b, off, none⟩) hb).trans hc0) | (go_at_call 27; refine (refIsCopy_any Y d y l0 _ HM.out (HY.out.below hb1) (by omega)).mono ?_; rintro e w2 ⟨rfl, rfl⟩; rw [HCP.out]))
      go_ret2
      exact ⟨rfl, hb1⟩
    | true =>
      have HS : Hid (feasS (rs.map BRow.l) y = (isFeas (rs.map BRow.l) y, 0)) := feasS_yes hok (by rw [e0.out, hl]; exact hcp)
      have HCP := Lib.hid hcp
      have HCL := Lib.hid (copyB_len hcp)
      rw [HS.out]
      clear hn hm h hy hok o2 o3 o4 hr0 hl hcp
      go_enter Try.func7, Try.ntmps7
      go_wp2_with (first | (go_at_call 26; refine (refWords_any _ c rs _ HN.out H.out).mono ?_; rintro e w1 ⟨rfl, hb1⟩; rw [HOK.out]; have hc1 := (hb1.cell (p := ⟨b, off, none⟩) hb).trans hc0) | (go_at_call 27; refine (refIsCopy_any Y d y l0 _ HM.out (HY.out.below hb1) (by omega)).mono ?_; rintro e w2 ⟨rfl, rfl⟩; rw [HCP.out]))
      refine (refIsFeas_any _ c rs Y d y _ HN.out HM.out (H.out.below hb1) (HY.out.below hb1) HOK.out (by rw [e0.out, HL.out, ← HCL.out, HM.out])).mono ?_
      rintro e w3 ⟨rfl, hb3⟩
      go_wp2_with fail
      go_ret2
      exact ⟨rfl, hb1.trans (hb3.mono hb1.size)⟩

theorem map_take_succ {rs : List BRow} {k : Nat} {r : BRow} (h : rs[k]? = some r) : (rs.take (k + 1)).map BRow.l = (rs.take k).map BRow.l ++ [r.l] := by
  have hk : k < rs.length := by
    rcases Nat.lt_or_ge k rs.length with h' | h'
    · exact h'
    · rw [List.getElem?_eq_none h'] at h; cases h
  rw [List.take_succ_eq_append_getElem hk, List.map_append]
  rw [List.getElem?_eq_getElem hk] at h
  injection h with h
  rw [h]; rfl

set_option maxHeartbeats 2000000 in
set_option maxRecDepth 100000 in
theorem codeFeasible_walk (A : Option Addr) (c : Nat) (rs : List BRow) (Y : Option Addr) (d : Nat) (y : List UInt8) (w : World) (h : RR w A c rs) (hcap : c * 24 ≤ 140737488351232) (hy : BR w Y d y) :
    Calls Try.prog 3 #[.slice A rs.length c, .slice Y y.length d] w fun e w' => e = .returned (.bool true) ∧ Below w.heap.size w w' := by
  obtain ⟨n, hn⟩ : ∃ n, rs.length = n := ⟨_, rfl⟩
  obtain ⟨m, hm⟩ : ∃ m, y.length = m := ⟨_, rfl⟩
  have hlen : (n : Int) ≤ 140737488351232 := by have := h.1.len; omega
  have hn24 : Hid (n * 24 ≤ 140737488351232) := by have := h.1.le; unfold Hid; omega
  have HN := Lib.hid hn
  have HM := Lib.hid hm
  have H := Lib.hid h
  have HY := Lib.hid hy
  rw [hn, hm]
  clear hn hm h hy hcap
  go_enter Try.func3, Try.ntmps3
  go_wp2_with fail
  go_loopw [5, 6] (fun vo vk wr => ∃ (k : Nat) (A' : Option Addr) (c' : Nat) (rs' : List BRow), k ≤ n ∧ vk = .int .i64 k ∧ vo = .slice A' k c' ∧ Hid (rs'.map BRow.l = (rs.take k).map BRow.l) ∧ Hid (rs'.length = k) ∧ Hid (RO w.heap.size wr A' c' rs') ∧ Hid (∀ r ∈ rs', OB w.heap.size wr r.A r.c r.l) ∧ Below w.heap.size w wr) (fun _ vk _ => n - (intOf vk).toNat)
  case atStart => exact ⟨0, none, 0, [], by omega, rfl, rfl, rfl, rfl, RO.nil _ _, (fun r hr => by cases hr), Below.refl _ _⟩
  case round =>
    obtain ⟨k, A', c', rs', hk, rfl, rfl, HL, HK, HR, HB, hbel⟩ := hrel
    by_cases hkn : k < n
    · have hki : (k : Int) < n := by omega
      obtain ⟨b, off, r, rfl, hb, hr, hcr, hRr⟩ := (H.out.below hbel).at_ (i := k) (by have := HN.out; omega)
      obtain ⟨RA, rc, rl⟩ := r
      dsimp only at hcr hRr
      have HLR := Lib.hid hRr.len
      have HRr := Lib.hid hRr
      have HTS := Lib.hid (map_take_succ hr)
      clear hr hRr
      go_wp2_with (first
        | (at_builtin; refine wpList_append_bytes _ rfl (.tmp 19) (.tmp 23) rfl wr.heap.size (some ⟨wr.heap.size, 0, none⟩) 0 0 [] rfl rfl (OB.lit0 _ _ (Nat.le_refl _)) RA rl.length rc rl rfl rfl ((HRr.out.below (alloc_bel _ _)).src rfl) (by have := HLR.out; omega) (by simp) ?_; intro A1 c1 w1 hon1 hbl1 hg1; clear hg1; have hbel2 := (alloc_bel wr _).trans hbl1; have HON1 := Lib.hid hon1; clear hon1; simp only [Nat.zero_add])
        | (at_builtin; refine wpList_append_row _ rfl (.tmp 18) (.tmp 25) rfl w.heap.size A' k c' rs' HK.out rfl ((HR.out.below (hbel2)).below (alloc_bel _ _)) ⟨A1, c1, rl⟩ (some ⟨w1.heap.size, 0, none⟩) 1 rfl (Src.one _ _ _) (by have := hn24.out; omega) (by have := hbel.size; have := hbel2.size; simp; omega) ?_; intro A2 c2 w2 hon2 hbl2 hg2))
      have HB2 : Hid (∀ r ∈ rs' ++ [⟨A1, c1, rl⟩], OB w.heap.size w2 r.A r.c r.l) := fun r hr => by
        have hro := ((HR.out.below hbel2).below (alloc_bel w1 (.cells #[.slice A1 rl.length c1] 23)))
        unfold RO at hro
        rw [HK.out] at hro
        rcases List.mem_append.1 hr with hr | hr
        · exact own_kept (((HB.out r hr).below hbel2).below (alloc_bel w1 _)) hro (by decide) hg2
        · rw [List.mem_singleton.1 hr]
          exact (OB.le_ (B := wr.heap.size) (own_kept (HON1.out.below (alloc_bel w1 _)) hro (by decide) hg2) hbel.size)
      have HON2 := Lib.hid hon2
      have hb02 := hbel.trans ((hbel2.trans ((alloc_bel w1 _).mono hbel2.size)).mono hbel.size) |>.trans hbl2
      clear hon2 hg2 hbl2
      go_wp2_with fail
      go_roundw
      case rel => exact ⟨k + 1, A2, c2, rs' ++ [(⟨A1, c1, rl⟩ : BRow)], by omega, by go_num, rfl, by unfold Hid; rw [HTS.out, List.map_append, HL.out]; rfl, by unfold Hid; rw [List.length_append, HK.out]; rfl, HON2, HB2, hb02⟩
      case measure => simp [intOf]; omega
    · obtain rfl : k = n := by omega
      have HL2 : Hid (rs'.map BRow.l = rs.map BRow.l) := by have := HL.out; rw [← HN.out, List.take_length] at this; exact this
      have HRR : Hid (RR wr A' c' rs') := RO.rr HR.out (by have := HK.out; omega) (fun r hr => (HB.out r hr).br (by
        have hm : r.l ∈ rs'.map BRow.l := List.mem_map.2 ⟨r, hr, rfl⟩
        rw [HL2.out] at hm
        obtain ⟨r0, h0, e0⟩ := List.mem_map.1 hm
        have := (H.out.2 r0 h0).len
        rw [e0] at this
        exact this))
      go_wp2_with (first
        | (go_at_call 6; refine (Feasible_any A' c' rs' Y d y _ HK.out HM.out HRR.out (HY.out.below hbel)).mono ?_; rintro e w1 ⟨rfl, hb1⟩; rw [HL2.out])
        | (go_at_call 7; refine (refFeasible_any A c rs Y d y _ HN.out HM.out (H.out.below (hbel.trans (hb1.mono hbel.size))) (HY.out.below (hbel.trans (hb1.mono hbel.size)))).mono ?_; rintro e w2 ⟨rfl, hb2⟩))
      have hb02 := hbel.trans ((hb1.trans (hb2.mono hb1.size)).mono hbel.size)
      have HO2 := Lib.hid ((HRR.out.below hb1).below hb2)
      have HW2 := Lib.hid (H.out.below hb02)
      go_loopw [11] (fun vk wr2 => ∃ j : Nat, j ≤ k ∧ vk = .int .i64 j ∧ Below w2.heap.size w2 wr2) (fun vk _ => k - (intOf vk).toNat)
      case atStart => exact ⟨0, by omega, rfl, Below.refl _ _⟩
      case round =>
        obtain ⟨j, hj, rfl, hb3⟩ := hrel
        have hb03 := hb02.trans (hb3.mono hb02.size)
        by_cases hjk : j < k
        · have hji : (j : Int) < k := by omega
          obtain ⟨b1, o1, r1, rfl, hq1, hr1, hc1, hR1⟩ := (HO2.out.below hb3).at_ (i := j) (by have := HK.out; omega)
          obtain ⟨b2, o2, r2, rfl, hq2, hr2, hc2, hR2⟩ := (HW2.out.below hb3).at_ (i := j) (by have := HN.out; omega)
          have hll : r1.l = r2.l := by
            have h1 := congrArg (fun l : List (List UInt8) => l[j]?) HL2.out
            simp only [List.getElem?_map, hr1, hr2] at h1
            simpa using h1
          have hs1 := fun q => run_string_br (hR1.drewN q) _ rfl
          have hs2 := fun q => run_string_br (hR2.drewN q) _ rfl
          obtain ⟨A1, c1, l1⟩ := r1
          obtain ⟨A2, c2, l2⟩ := r2
          dsimp only at hll hs1 hs2 hc1 hc2
          subst hll
          clear hr1 hr2 hR1 hR2
          go_wp2_with fail
          go_quiet (fail)
          go_wp2_with fail
          go_roundw
          case rel => exact ⟨j + 1, by omega, by go_num, below_drewN hb3 _⟩
          case measure => simp [intOf]; omega
        · go_wp2_with fail
          go_ret
          exact ⟨rfl, hb03⟩
end Go.Proofs.Ytenpkmgbaajeeaa
