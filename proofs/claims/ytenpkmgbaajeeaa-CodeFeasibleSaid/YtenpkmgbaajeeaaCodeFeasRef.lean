/-
  Whether a copy is feasible: the reference.
-/
import Derived.Test.YtenpkmgbaajeeaaCodeFeas
namespace Go.Proofs.Ytenpkmgbaajeeaa
open Go.RowKit Go.Shelf
set_option linter.unusedVariables false

theorem quiet_left' {P : Program} {f : FuncId} {args : Array Value} {w : World} {n : Nat} {v : Value}
    (h : Calls P f args (w.drewN n) fun e w' => e = .returned v ∧ w.drewN n = w') : Calls P f args (w.drewN n) fun e w'' => e = .returned v ∧ ∃ m, w'' = w.drewN m :=
  h.mono fun _ _ ⟨he, hm⟩ => ⟨he, n, hm.symm⟩
theorem BR.drewN {w : World} {A : Option Addr} {c : Nat} {l : List UInt8} (h : BR w A c l) (n : Nat) : BR (w.drewN n) A c l := Rd.drewN h n

theorem okWords_false {ls : List (List UInt8)} {k : Nat} (hk : k < ls.length) (h : wordB (ls.getD k []) (hd ls).length = false) : okWords ls = false := by
  cases hok : okWords ls
  · rfl
  · have := (okWords_parts hok).2.2.2 k hk
    rw [h] at this; cases this
theorem okWords_true {ls : List (List UInt8)} (h1 : 1 ≤ ls.length) (h2 : ls.length ≤ 64) (h3 : (hd ls).length ≤ 1024) (h : ∀ i, i < ls.length → wordB (ls.getD i []) (hd ls).length = true) : okWords ls = true := by
  have : anyI ls.length (fun i => !wordB (ls.getD i []) (hd ls).length) = false := by
    cases ha : anyI ls.length (fun i => !wordB (ls.getD i []) (hd ls).length)
    · rfl
    · obtain ⟨i, hi, hp⟩ := anyI_iff.1 ha
      rw [h i hi] at hp; cases hp
  unfold okWords
  rw [this]
  simp [h1, h2, h3]

set_option maxHeartbeats 1000000 in
theorem refWords_any (A : Option Addr) (c : Nat) (rs : List BRow) (w : World) {n : Nat} (hn : rs.length = n) (h : RR w A c rs) :
    Calls Try.prog 26 #[.slice A n c] w fun e w' => e = .returned (.bool (okWords (rs.map BRow.l))) ∧ Below w.heap.size w w' := by
  have hlen : (n : Int) ≤ 140737488351232 := by have := h.1.len; omega
  have HN := Lib.hid hn
  have H := Lib.hid h
  by_cases h0 : n = 0
  · have HS : Hid (okWords (rs.map BRow.l) = false) := by
      have : rs = [] := List.eq_nil_of_length_eq_zero (by omega)
      unfold Hid; rw [this]; rfl
    subst h0
    clear hn h
    go_enter Try.func26, Try.ntmps26
    go_wp2_with fail
    go_ret
    exact ⟨ret_bool' HS.out.symm, Below.refl _ _⟩
  · have t0 : decide ((n : Int) < 1) = false := by simp; omega
    have t0' : decide (n < 1) = false := by simp; omega
    by_cases h64 : 64 < n
    · have t1 : decide ((64 : Int) < n) = true := by simp; omega
      have t1' : decide (64 < n) = true := by simp; omega
      have HS : Hid (okWords (rs.map BRow.l) = false) := by unfold Hid; simp [okWords, hn]; omega
      clear hn h h0 h64
      go_enter Try.func26, Try.ntmps26
      go_wp2_with fail
      go_ret
      exact ⟨ret_bool' HS.out.symm, Below.refl _ _⟩
    · have t1 : decide ((64 : Int) < n) = false := by simp; omega
      have t1' : decide (64 < n) = false := by simp; omega
      have hn0 : (0 : Int) < n := by omega
      have hn0' : 0 < n := by omega
      obtain ⟨b, off, r0, rfl, hb, hr0, hc0, hR0⟩ := h.at_ (i := 0) (by omega)
      rw [Nat.add_zero] at hc0
      have e0 : Hid (hd (rs.map BRow.l) = r0.l) := row_l hr0
      have hl0 : (r0.l.length : Int) ≤ 140737488351232 := by have := hR0.len; omega
      obtain ⟨l0, hl⟩ : ∃ l0, r0.l.length = l0 := ⟨_, rfl⟩
      have HL := Lib.hid hl
      rw [hl] at hc0 hl0
      by_cases hbig : 1024 < l0
      · have t2 : decide ((1024 : Int) < l0) = true := by simp; omega
        have t2' : decide (1024 < l0) = true := by simp; omega
        have HS : Hid (okWords (rs.map BRow.l) = false) := by unfold Hid; simp [okWords, hn, e0.out, hl]; omega
        clear hn h h0 h64 hbig hr0 hl
        go_enter Try.func26, Try.ntmps26
        go_wp2_with fail
        go_ret
        exact ⟨ret_bool' HS.out.symm, Below.refl _ _⟩
      · have t2 : decide ((1024 : Int) < l0) = false := by simp; omega
        have t2' : decide (1024 < l0) = false := by simp; omega
        have HG : Hid (n ≤ 64 ∧ l0 ≤ 1024) := ⟨by omega, by omega⟩
        clear hn h h0 h64 hbig hr0 hl
        go_enter Try.func26, Try.ntmps26
        go_wp2_with fail
        go_loopw [3] (fun vk wr => ∃ k : Nat, k ≤ n ∧ vk = .int .i64 k ∧ Hid (∀ j, j < k → wordB ((rs.map BRow.l).getD j []) l0 = true) ∧ Below w.heap.size w wr) (fun vk _ => n - (intOf vk).toNat)
        case atStart => exact ⟨0, by omega, rfl, fun j hj => absurd hj (by omega), Below.refl _ _⟩
        case round =>
          obtain ⟨k, hk, rfl, HK, hbel⟩ := hrel
          have hc0w : wr.cell? ⟨b, off, none⟩ = some (.slice r0.A l0 r0.c) := (hbel.cell (p := ⟨b, off, none⟩) hb).trans hc0
          by_cases hkn : k < n
          · obtain ⟨b', off', r, e', hb', hr, hcr, hRr⟩ := (H.out.below hbel).at_ (i := k) (by have := HN.out; omega)
            injection e' with e'
            injection e' with e1 e2
            subst e1 e2
            have hrl : (rs.map BRow.l).getD k [] = r.l := row_l hr
            have hkk : k < rs.length := by have := HN.out; omega
            have hrlen : (r.l.length : Int) ≤ 140737488351232 := by have := hRr.len; omega
            have hki : (k : Int) < n := by omega
            have HRr := Lib.hid hRr
            cases hw : wordB r.l l0 with
            | true =>
              have HW := Lib.hid hw
              have HK2 : Hid (∀ j, j < k + 1 → wordB ((rs.map BRow.l).getD j []) l0 = true) := fun j hj => by
                rcases Nat.lt_or_ge j k with h' | h'
                · exact HK.out j h'
                · rw [show j = k from by omega, hrl]; exact hw
              have HIW : Hid (∀ nq, Calls Try.prog 33 #[.slice r.A r.l.length r.c, .int .i64 (l0 : Int)] (wr.drewN nq) fun e w' => e = .returned (.bool true) ∧ wr.drewN nq = w') := fun nq => by
                have h1 := refIsWord_any r.A r.c r.l l0 _ rfl (hRr.drewN nq) (by omega)
                rw [hw] at h1
                exact h1
              clear hw hrl hr hkk hRr
              go_wp2_with fail
              go_quiet ((go_at_call 33; exact quiet_left' (HIW.out _)))
              go_wp2_with fail
              go_roundw
              case rel => exact ⟨k + 1, by omega, by go_num, HK2, below_drewN hbel _⟩
              case measure => simp [intOf]; omega
            | false =>
              have HW := Lib.hid hw
              have HS : Hid (okWords (rs.map BRow.l) = false) := okWords_false (k := k) (by simpa using hkk) (by rw [hrl, e0.out, HL.out]; exact hw)
              have HIW : Hid (∀ nq, Calls Try.prog 33 #[.slice r.A r.l.length r.c, .int .i64 (l0 : Int)] (wr.drewN nq) fun e w' => e = .returned (.bool false) ∧ wr.drewN nq = w') := fun nq => by
                have h1 := refIsWord_any r.A r.c r.l l0 _ rfl (hRr.drewN nq) (by omega)
                rw [hw] at h1
                exact h1
              clear hw hrl hr hkk hRr
              go_wp2_with fail
              go_quiet ((go_at_call 33; exact quiet_left' (HIW.out _)))
              go_wp2_with fail
              go_ret
              exact ⟨ret_bool' HS.out.symm, below_drewN hbel _⟩
          · have HS : Hid (okWords (rs.map BRow.l) = true) := okWords_true (by have := HN.out; simp; omega) (by have := HN.out; have := HG.out; simp; omega) (by rw [e0.out, HL.out]; exact HG.out.2) (fun i hi => by
              rw [e0.out, HL.out]
              exact HK.out i (by have := HN.out; simp at hi; omega))
            go_wp2_with fail
            go_ret
            exact ⟨ret_bool' HS.out.symm, hbel⟩

theorem anyI_zero (p : Nat → Bool) : anyI 0 p = false := rfl
theorem anyI_succ (n : Nat) (p : Nat → Bool) : anyI (n + 1) p = (anyI n p || p n) := by simp [anyI, List.range_succ, List.any_append]

set_option maxHeartbeats 2000000 in
theorem refIsFeas_any (A : Option Addr) (c : Nat) (rs : List BRow) (Y : Option Addr) (d : Nat) (y : List UInt8) (w : World) {n m : Nat} (hn : rs.length = n) (hm : y.length = m) (h : RR w A c rs) (hy : BR w Y d y) (hok : okWords (rs.map BRow.l) = true) (hml : (hd (rs.map BRow.l)).length = m) :
    Calls Try.prog 28 #[.slice A n c, .slice Y m d] w fun e w' => e = .returned (.bool (isFeas (rs.map BRow.l) y)) ∧ Below w.heap.size w w' := by
  have hlen : (n : Int) ≤ 140737488351232 := by have := h.1.len; omega
  have hmlen : (m : Int) ≤ 140737488351232 := by have := hy.len; omega
  have HN := Lib.hid hn
  have HM := Lib.hid hm
  have HML := Lib.hid hml
  have H := Lib.hid h
  have HY := Lib.hid hy
  obtain ⟨o1, o2, o3, o4⟩ := okWords_parts hok
  rw [List.length_map, hn] at o1
  have hn0 : (0 : Int) < n := by omega
  obtain ⟨b, off, r0, rfl, hb, hr0, hc0, hR0⟩ := h.at_ (i := 0) (by omega)
  rw [Nat.add_zero] at hc0
  have e0 : Hid (hd (rs.map BRow.l) = r0.l) := row_l hr0
  have HR0 := Lib.hid hR0
  have HWL : Hid (∀ (i : Nat) (r : BRow), rs[i]? = some r → r.l.length = m) := fun i r hr => by
    have hi : i < rs.length := by
      rcases Nat.lt_or_ge i rs.length with h' | h'
      · exact h'
      · rw [List.getElem?_eq_none h'] at hr; cases hr
    have := wordB_len (o4 i (by simpa using hi))
    rw [row_l hr] at this
    omega
  have h00 := HWL.out 0 r0 hr0
  rw [h00] at hc0
  have HL0 := Lib.hid h00
  clear hn hm hml h hy hok o2 o3 o4 hr0 hR0 h00
  go_enter Try.func28, Try.ntmps28
  go_wp2_with fail
  go_loopw [5, 6, 7] (fun vi vs vk wr => ∃ i : Nat, i ≤ m ∧ vi = .int .i64 i ∧ Hid (∀ j, j < i → bt y j = bt (hd (rs.map BRow.l)) j ∨ oddB (rs.map BRow.l) j = true) ∧ Below w.heap.size w wr) (fun vi _ _ _ => m - (intOf vi).toNat)
  case atStart => exact ⟨0, by omega, rfl, fun j hj => absurd hj (by omega), Below.refl _ _⟩
  case round =>
    obtain ⟨i, hi, rfl, HI, hbel⟩ := hrel
    by_cases him : i < m
    · have him2 : (i : Int) < m := by omega
      obtain ⟨yb, yo, rfl, hyb, hyc0⟩ := HY.out.at_ (i := i) (by have := HM.out; omega)
      obtain ⟨fb, fo, ef, hfb, hfc0⟩ := HR0.out.at_ (i := i) (by have := HL0.out; omega)
      have HE : Hid (bt (hd (rs.map BRow.l)) i = bt r0.l i) := by unfold Hid; rw [e0.out]
      rw [ef] at hc0
      clear ef
      have hx := bt_le y i
      have hx0 := bt_le r0.l i
      go_wp2_with fail
      go_loopw [6, 7] (fun vs vk wr2 => ∃ (k : Nat) (s : Bool), k ≤ n ∧ vk = .int .i64 k ∧ vs = .bool s ∧ Hid (anyI k (fun j => bt ((rs.map BRow.l).getD j []) i != bt r0.l i) = !s) ∧ Below w.heap.size w wr2) (fun _ vk _ => n - (intOf vk).toNat)
      case atStart => exact ⟨0, true, by omega, rfl, rfl, rfl, hbel⟩
      case round =>
        obtain ⟨k, s, hk, rfl, rfl, HS, hb2⟩ := hrel
        have c0 : wr.cell? ⟨b, off, none⟩ = some (.slice (some ⟨fb, fo, none⟩) m r0.c) := (hb2.cell (p := ⟨b, off, none⟩) hb).trans hc0
        have c1 : wr.cell? ⟨fb, fo + i, none⟩ = some (.int .u8 (bt r0.l i : Int)) := (hb2.cell (p := ⟨fb, fo + i, none⟩) hfb).trans hfc0
        have c2 : wr.cell? ⟨yb, yo + i, none⟩ = some (.int .u8 (bt y i : Int)) := (hb2.cell (p := ⟨yb, yo + i, none⟩) hyb).trans hyc0
        by_cases hkn : k < n
        · have hki : (k : Int) < n := by omega
          obtain ⟨b', off', r, e', hb', hr, hcr, hRr⟩ := (H.out.below hb2).at_ (i := k) (by have := HN.out; omega)
          injection e' with e'
          injection e' with e1 e2
          subst e1 e2
          have hrl : Hid ((rs.map BRow.l).getD k [] = r.l) := row_l hr
          have hrm := HWL.out k r hr
          rw [hrm] at hcr
          obtain ⟨gb, go, eg, hgb, hgc⟩ := hRr.at_ (i := i) (by omega)
          rw [eg] at hcr
          have hx1 := bt_le r.l i
          have HA : Hid (anyI (k + 1) (fun j => bt ((rs.map BRow.l).getD j []) i != bt r0.l i) = (!s || (bt r.l i != bt r0.l i))) := by unfold Hid; rw [anyI_succ, HS.out, hrl.out]
          clear hr hRr hrm eg hc0 hyc0 hfc0
          cases s with
          | false =>
            go_wp2_with fail
            go_quiet (fail)
            go_wp2_with fail
            go_roundw
            case rel => exact ⟨k + 1, false, by omega, by go_num, rfl, by rw [HA.out]; rfl, below_drewN hb2 _⟩
            case measure => simp [intOf]; omega
          | true =>
            by_cases he : bt r.l i = bt r0.l i
            · have g1 : ((bt r.l i : Int) == (bt r0.l i : Int)) = true := by rw [he]; simp
              have HA2 : Hid (anyI (k + 1) (fun j => bt ((rs.map BRow.l).getD j []) i != bt r0.l i) = !true) := by unfold Hid; rw [HA.out, he]; simp
              generalize bt r.l i = x1 at *
              clear HA
              generalize hx0' : bt r0.l i = x0 at *
              have HX0 := Lib.hid hx0'
              clear he hx0'
              go_wp2_with fail
              go_quiet (fail)
              go_wp2_with fail
              go_roundw
              case rel => exact ⟨k + 1, true, by omega, by go_num, rfl, HA2.out, below_drewN hb2 _⟩
              case measure => simp [intOf]; omega
            · have g1 : ((bt r.l i : Int) == (bt r0.l i : Int)) = false := by rw [beq_eq_false_iff_ne]; omega
              have HA2 : Hid (anyI (k + 1) (fun j => bt ((rs.map BRow.l).getD j []) i != bt r0.l i) = !false) := by unfold Hid; rw [HA.out]; simpa using he
              generalize bt r.l i = x1 at *
              clear HA
              generalize hx0' : bt r0.l i = x0 at *
              have HX0 := Lib.hid hx0'
              clear he hx0'
              go_wp2_with fail
              go_quiet (fail)
              go_wp2_with fail
              go_roundw
              case rel => exact ⟨k + 1, false, by omega, by go_num, rfl, HA2.out, below_drewN hb2 _⟩
              case measure => simp [intOf]; omega
        · obtain rfl : k = n := by omega
          have HO : Hid (oddB (rs.map BRow.l) i = !s) := by unfold Hid oddB; rw [List.length_map, HN.out, HE.out]; exact HS.out
          clear hc0 hyc0 hfc0
          cases s with
          | false =>
            have HI2 : Hid (∀ j, j < i + 1 → bt y j = bt (hd (rs.map BRow.l)) j ∨ oddB (rs.map BRow.l) j = true) := fun j hj => by
              rcases Nat.lt_or_ge j i with h' | h'
              · exact HI.out j h'
              · rw [show j = i from by omega]; exact .inr HO.out
            go_wp2_with fail
            go_quiet (fail)
            go_wp2_with fail
            go_roundw
            case rel => exact ⟨i + 1, by omega, by go_num, HI2, below_drewN hb2 _⟩
            case measure => simp [intOf]; omega
          | true =>
            by_cases he : bt y i = bt r0.l i
            · have HI2 : Hid (∀ j, j < i + 1 → bt y j = bt (hd (rs.map BRow.l)) j ∨ oddB (rs.map BRow.l) j = true) := fun j hj => by
                rcases Nat.lt_or_ge j i with h' | h'
                · exact HI.out j h'
                · rw [show j = i from by omega, HE.out]; exact .inl he
              have g1 : ((bt y i : Int) != (bt r0.l i : Int)) = false := by rw [he]; simp
              generalize bt y i = x1 at *
              generalize bt r0.l i = x0 at *
              clear he
              go_wp2_with fail
              go_quiet (fail)
              go_wp2_with fail
              go_roundw
              case rel => exact ⟨i + 1, by omega, by go_num, HI2, below_drewN hb2 _⟩
              case measure => simp [intOf]; omega
            · have HF : Hid (isFeas (rs.map BRow.l) y = false) := isFeas_no (k := i) (by have := HM.out; omega) (by rw [HE.out]; exact he) HO.out
              have g1 : ((bt y i : Int) != (bt r0.l i : Int)) = true := by rw [bne_iff_ne]; omega
              generalize bt y i = x1 at *
              generalize bt r0.l i = x0 at *
              clear he
              go_wp2_with fail
              go_quiet (fail)
              go_wp2_with fail
              go_ret
              exact ⟨ret_bool' HF.out.symm, below_drewN hb2 _⟩
    · have HT : Hid (isFeas (rs.map BRow.l) y = true) := isFeas_yes fun j hj => HI.out j (by have := HM.out; omega)
      go_wp2_with fail
      go_ret
      exact ⟨ret_bool' HT.out.symm, hbel⟩
end Go.Proofs.Ytenpkmgbaajeeaa
