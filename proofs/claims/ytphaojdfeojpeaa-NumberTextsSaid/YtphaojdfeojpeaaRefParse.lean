/-
  The reference's Parse.
-/
import Derived.Test.YtphaojdfeojpeaaParseWalks
namespace Go.Proofs.Ytphaojdfeojpeaa
open Go.RowKit
set_option linter.unusedVariables false

set_option maxHeartbeats 2000000 in
set_option maxRecDepth 100000 in
theorem refParse_rest (s : ByteArray) (l : List UInt8) (hl : s.toList = l) (hsz : l.length = s.size) (w : World) (hsi : (s.size : Int) ≤ 1000000) (hp : 0 < s.size)
    (e34 : decide ((1 : Int) < s.size) = false ∨ ((1 : Int) < s.size ∧ ((s[0].toNat : Int) == 48) = false)) (hfb : formB l = allDig l) :
    Calls Try.prog 30 #[.string s] w fun e w' => Num2 w w' e (parseS l) := by
  have HSZ := Lib.hid hsz
  have HL := Lib.hid hl
  have HFB := Lib.hid hfb
  have e1 : ((s.size : Int) == 0) = false := by rw [beq_eq_false_iff_ne]; omega
  have e1' : (s.size == 0) = false := by rw [beq_eq_false_iff_ne]; omega
  clear hl hsz hfb
  rcases e34 with e3 | ⟨e3, e4⟩
  all_goals
    go_enter Try.func30, Try.ntmps30
    go_wp2_with fail
    go_loop [4] (fun v => ∃ k : Nat, k ≤ s.size ∧ v = .int .i64 k ∧ Hid (∀ j (h : j < l.length), j < k → 48 ≤ l[j].toNat ∧ l[j].toNat ≤ 57)) (fun v => s.size - (intOf v).toNat)
    case atStart => exact ⟨0, by omega, rfl, fun j h hj => absurd hj (Nat.not_lt_zero _)⟩
    case round =>
      obtain ⟨k, hk, rfl, HA⟩ := hrel
      by_cases hkn : k < s.size
      · have hb := byte_get HL.out hkn (by have := HSZ.out; omega)
        have hkl : k < l.length := by have := HSZ.out; omega
        have hki : (k : Int) < s.size := by omega
        rcases (by omega : l[k].toNat < 48 ∨ 57 < l[k].toNat ∨ (48 ≤ l[k].toNat ∧ l[k].toNat ≤ 57)) with h | h | h
        · have HS : Hid (parseS l = ([], 12)) := parseS_no (by rw [HFB.out]; exact allDig_no hkl (.inl h))
          have t1 : (s[k].toNat : Int) < 48 := by rw [hb]; omega
          clear h hb
          go_wp2_with fail
          go_ret2
          exact Num2.no HS.out (Below.refl _ _)
        · have HS : Hid (parseS l = ([], 12)) := parseS_no (by rw [HFB.out]; exact allDig_no hkl (.inr h))
          have t1 : decide ((s[k].toNat : Int) < 48) = false := by rw [hb]; simp; omega
          have t2 : decide ((57 : Int) < (s[k].toNat : Int)) = true := by rw [hb]; simp; omega
          clear h hb
          go_wp2_with fail
          go_ret2
          exact Num2.no HS.out (Below.refl _ _)
        · have t1 : decide ((s[k].toNat : Int) < 48) = false := by rw [hb]; simp; omega
          have t2 : decide ((57 : Int) < (s[k].toNat : Int)) = false := by rw [hb]; simp; omega
          have HA2 : Hid (∀ j (h : j < l.length), j < k + 1 → 48 ≤ l[j].toNat ∧ l[j].toNat ≤ 57) := fun j hj hjk => by
            by_cases e : j = k
            · subst e; exact h
            · exact HA.out j hj (by omega)
          clear h hb
          go_wp2_with fail
          go_round
          case rel => exact ⟨k + 1, by omega, by go_num, HA2⟩
          case measure => simp [intOf]; omega
      · obtain rfl : k = s.size := by omega
        have HD : Hid (∀ j (h : j < l.length), 48 ≤ l[j].toNat ∧ l[j].toNat ≤ 57) := fun j hj => HA.out j hj (by have := HSZ.out; omega)
        have HS : Hid (parseS l = limS (decV l)) := parseS_yes (by rw [HFB.out]; exact allDig_yes HD.out)
        clear HA hk hkn
        go_wp2_with fail
        go_loopw [5, 6] (fun va vk wr => ∃ (k : Nat) (X : Option Addr) (cx : Nat), k ≤ s.size ∧ vk = .int .i64 k ∧ va = .slice X (digs (decV (l.take k))).length cx ∧ Hid (NF w.heap.size wr X cx (digs (decV (l.take k)))) ∧ (digs (decV (l.take k))).length ≤ 18 ∧ Below w.heap.size w wr) (fun _ vk _ => s.size - (intOf vk).toNat)
        case atStart => exact ⟨0, none, 0, by omega, rfl, rfl, NF.nil _ _, by simp [decV_nil, digs_zero], Below.refl _ _⟩
        case round =>
          obtain ⟨k, X, cx, hk, rfl, rfl, RX, lx, hbel⟩ := hrel
          obtain ⟨wo, rfl⟩ : ∃ wo : World, wo = wr := ⟨_, rfl⟩
          by_cases hkn : k < s.size
          · have hb := byte_get HL.out hkn (by have := HSZ.out; omega)
            have hkl : k < l.length := by have := HSZ.out; omega
            have hki : (k : Int) < s.size := by omega
            have hki0 : (0 : Int) ≤ k := by omega
            obtain ⟨d1, d2⟩ := HD.out k hkl
            obtain ⟨d, hd⟩ : ∃ d : Nat, l[k].toNat - 48 = d := ⟨_, rfl⟩
            have hdi : (s[k].toNat : Int) - 48 = (d : Int) := by rw [hb]; omega
            have HN : Hid (decV (l.take (k + 1)) = decV (l.take k) * 10 + d) := by rw [← hd]; exact decV_next hkl
            have hd9 : d ≤ 9 := by omega
            have hc1 : (48 : Int) ≤ (s[k].toNat : Int) := by rw [hb]; omega
            have hc2 : (s[k].toNat : Int) ≤ 57 := by rw [hb]; omega
            have hw1 : IntKind.u8.wrap (d : Int) = d := IntWalk.u8_in _ (by omega)
            have hw2 : IntKind.u64.wrap (d : Int) = d := IntWalk.u64_in _ (by omega)
            have HOV := Lib.hid (fun h => decV_over (l := l) (k := k) h)
            generalize decV (l.take k) = v at *
            clear hb d1 d2 hd
            by_cases h16 : (digs v).length ≤ 16
            · have HV10 : Hid ((digs (v * 10)).length ≤ 17) := mul_ten_len h16
              have HVL : Hid ((digs (v * 10 + d)).length ≤ 18) := by
                have h1 := lt_of_digs_len HV10.out
                refine digs_len_le ?_
                rw [Nat.pow_succ]
                omega
              have t1 : decide (((digs v).length : Int) ≤ 16) = true := by simp; omega
              have hbelD : Below w.heap.size w wo.drew := hbel.drew
              go_wp2_with fail
              go_region_with (first
                | (go_at_call 83; go_loud (refine (refTimes_any X cx (digs v) E ce (digs 10) _ rfl rfl (by first | exact RX.out.1.drew.below hb1 | exact RX.out.1.below hb1) hE.1 (by omega) (by rw [digs_ten]; simp)).mono ?_; rintro e w2 ⟨T, ct, rfl, hT, hb2⟩; rw [val_digs, val_digs] at hT ⊢))
                | (go_at_call_of 33 d; go_loud (refine (refOf_any d _ (by omega)).mono ?_; rintro e w3 ⟨D, cd, rfl, hD, hb3⟩))
                | (go_at_call 33; go_loud (refine (refOf_any 10 _ (by omega)).mono ?_; rintro e w1 ⟨E, ce, rfl, hE, hb1⟩))
                | (go_at_call 82; go_loud (refine (refPlus_any T ct (digs (v * 10)) D cd (digs d) _ rfl rfl (hT.1.below hb3) hD.1 (by have := HV10.out; omega) (by have := digs_len_le (n := d) (k := 1) (by omega); omega)).mono ?_; rintro e w4 ⟨Y, cy, rfl, hY, hb4⟩; rw [val_digs, val_digs] at hY ⊢)))
              all_goals
                have hb0 := hbelD.trans (hb1.mono hbelD.size)
                have hba := hb0.trans (hb2.mono hb0.size)
                have hbb := hba.trans (hb3.mono hba.size)
                have hbc := hbb.trans (hb4.mono hbb.size)
                have HY := Lib.hid (hY.mono hbb.size)
                clear hY hb1 hb2 hb3 hb4 hb0 hba hbb hT hD hE
                go_wp2_with fail
                go_roundw
                case rel => exact ⟨k + 1, Y, cy, by omega, by go_num, by rw [HN.out], by rw [HN.out]; exact HY.out, by rw [HN.out]; exact HVL.out, hbc⟩
                case measure => simp [intOf]; omega
            · have t1 : decide (((digs v).length : Int) ≤ 16) = false := by simp; omega
              have H16 : Hid (16 < (digs v).length) := by unfold Hid; omega
              have HO := Lib.hid (HOV.out H16.out)
              clear h16
              go_wp2_with fail
              refine (refLimited_any X _ cx _).mono ?_
              rintro e w3 ⟨rfl, rfl⟩
              rw [limV_no H16.out]
              go_wp2_with fail
              go_ret2
              exact Num2.no (HS.out.trans HO.out) hbel
          · obtain rfl : k = s.size := by omega
            have HT : Hid (l.take s.size = l) := List.take_of_length_le (by have := HSZ.out; omega)
            rw [HT.out] at lx RX ⊢
            by_cases h16 : (digs (decV l)).length ≤ 16
            · have HLM : Hid (limS (decV l) = (digs (decV l), 0)) := limS_yes h16
              have H16 := Lib.hid h16
              clear h16
              go_wp2_with fail
              refine (refLimited_any X _ cx _).mono ?_
              rintro e w3 ⟨rfl, rfl⟩
              rw [limV_yes H16.out]
              go_wp2_with fail
              go_ret2
              exact Num2.yes (HS.out.trans HLM.out) rfl RX.out hbel
            · have HLM : Hid (limS (decV l) = ([], 4)) := limS_no h16
              have H16 : Hid (16 < (digs (decV l)).length) := by unfold Hid; omega
              clear h16
              go_wp2_with fail
              refine (refLimited_any X _ cx _).mono ?_
              rintro e w3 ⟨rfl, rfl⟩
              rw [limV_no H16.out]
              go_wp2_with fail
              go_ret2
              exact Num2.no (HS.out.trans HLM.out) hbel

set_option maxHeartbeats 1000000 in
theorem refParse_any (s : ByteArray) (l : List UInt8) (hl : s.toList = l) (w : World) (hs : s.size ≤ 1000000) :
    Calls Try.prog 30 #[.string s] w fun e w' => Num2 w w' e (parseS l) := by
  have hsz := byte_len hl
  have HSZ := Lib.hid hsz
  have hsi : (s.size : Int) ≤ 1000000 := by omega
  have HL := Lib.hid hl
  by_cases h0 : l = []
  · have HS : Hid (parseS l = ([], 12)) := parseS_no (by rw [h0]; rfl)
    have hz : s.size = 0 := by rw [← hsz, h0]; rfl
    have e1 : ((s.size : Int) == 0) = true := by rw [hz]; rfl
    have e1' : (s.size == 0) = true := by rw [hz]; rfl
    clear hl hsz h0 hz
    go_enter Try.func30, Try.ntmps30
    go_wp2_with fail
    go_ret2
    exact Num2.no HS.out (Below.refl _ _)
  · have hp : 0 < s.size := by have := List.length_pos_iff.2 h0; omega
    have hg0 : l.getD 0 0 = s[0] := by rw [getD_zero (by omega)]; exact (byte_get hl hp (by omega)).symm
    rcases headB_cases l h0 with ⟨h1, h2, h3⟩ | ⟨h1, h3⟩ | ⟨h1, h2, h3⟩
    · have HS : Hid (parseS l = ([], 12)) := parseS_no (by rw [formB_eq, h3]; rfl)
      have e1 : ((s.size : Int) == 0) = false := by rw [beq_eq_false_iff_ne]; omega
      have e1' : (s.size == 0) = false := by rw [beq_eq_false_iff_ne]; omega
      have e3 : (1 : Int) < s.size := by omega
      have e4 : ((s[0].toNat : Int) == 48) = true := by rw [← hg0, h2]; rfl
      clear hl hsz h0 hg0 h1 h2 h3
      go_enter Try.func30, Try.ntmps30
      go_wp2_with fail
      go_ret2
      exact Num2.no HS.out (Below.refl _ _)
    · exact refParse_rest s l HL.out HSZ.out w hsi hp (.inl (by simp; omega)) (by rw [formB_eq, h3]; rfl)
    · exact refParse_rest s l HL.out HSZ.out w hsi hp (.inr ⟨by omega, by
        rw [beq_eq_false_iff_ne]
        intro e
        exact h2 (by rw [hg0]; exact UInt8.toNat_inj.1 (by rw [show ((48 : UInt8)).toNat = 48 from rfl]; omega))⟩) (by rw [formB_eq, h3]; rfl)
end Go.Proofs.Ytphaojdfeojpeaa
