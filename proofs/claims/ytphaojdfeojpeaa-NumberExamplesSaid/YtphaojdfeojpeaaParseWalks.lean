/-
  The number of a decimal text: the program's Parse and the reference's.
-/
import Derived.Test.YtphaojdfeojpeaaTextWalks
namespace Go.Proofs.Ytphaojdfeojpeaa
open Go.RowKit
set_option linter.unusedVariables false

/-- The number of a text, or an error. -/
def parseS (l : List UInt8) : List Nat × Int := if formB l = true then limS (decV l) else ([], 12)
theorem parseS_no {l : List UInt8} (h : formB l = false) : parseS l = ([], 12) := by rw [parseS, h]; rfl
theorem parseS_yes {l : List UInt8} (h : formB l = true) : parseS l = limS (decV l) := by rw [parseS, h]; rfl
/-- The first test of a text. -/
def headB (l : List UInt8) : Bool := decide (l ≠ []) && !(decide (1 < l.length) && (l.getD 0 0 == 48))
theorem formB_eq (l : List UInt8) : formB l = (headB l && allDig l) := rfl
theorem allDig_no {l : List UInt8} {k : Nat} (h : k < l.length) (hc : l[k].toNat < 48 ∨ 57 < l[k].toNat) : allDig l = false := by
  cases h2 : allDig l
  · rfl
  · have := allDig_iff.1 h2 l[k] (List.getElem_mem h)
    omega
theorem allDig_yes {l : List UInt8} (h : ∀ k (hk : k < l.length), 48 ≤ l[k].toNat ∧ l[k].toNat ≤ 57) : allDig l = true := by
  refine allDig_iff.2 fun c hc => ?_
  obtain ⟨k, hk, rfl⟩ := List.mem_iff_getElem.1 hc
  exact h k hk
theorem decV_next {l : List UInt8} {k : Nat} (hk : k < l.length) : decV (l.take (k + 1)) = decV (l.take k) * 10 + (l[k].toNat - 48) := by
  rw [List.take_succ_eq_append_getElem hk, decV_snoc]
theorem decV_over {l : List UInt8} {k : Nat} (h : 16 < (digs (decV (l.take k))).length) : limS (decV l) = ([], 4) := limS_no (by
  have := digs_len_mono (decV_take_le l k)
  omega)

theorem byte_get {s : ByteArray} {l : List UInt8} (hl : s.toList = l) {k : Nat} (hk : k < s.size) (hk2 : k < l.length) : s[k] = l[k] := by
  subst hl
  have e := ByteArray.toList_eq s
  have h1 : s[k] = s.data[k] := rfl
  rw [h1]
  simp [e]
theorem byte_len {s : ByteArray} {l : List UInt8} (hl : s.toList = l) : l.length = s.size := by
  subst hl
  rw [ByteArray.toList_eq s]
  rfl
theorem headB_cases (l : List UInt8) (h0 : l ≠ []) : (1 < l.length ∧ l.getD 0 0 = 48 ∧ headB l = false) ∨ (¬ 1 < l.length ∧ headB l = true) ∨ (1 < l.length ∧ l.getD 0 0 ≠ 48 ∧ headB l = true) := by
  unfold headB
  by_cases h1 : 1 < l.length
  · by_cases h2 : l.getD 0 0 = 48
    · exact .inl ⟨h1, h2, by rw [h2]; simp [h1]⟩
    · refine .inr (.inr ⟨h1, h2, ?_⟩)
      have h3 : (l.getD 0 0 == 48) = false := by simpa using h2
      rw [h3]; simp [h0]
  · exact .inr (.inl ⟨h1, by simp [h0, h1]⟩)
theorem getD_zero {l : List UInt8} (h : 0 < l.length) : l.getD 0 0 = l[0] := by simp [List.getD, List.getElem?_eq_getElem h]

theorem mul_ten_len {v : Nat} (h : (digs v).length ≤ 16) : (digs (v * 10)).length ≤ 17 := digs_len_le (by
  have := lt_of_digs_len h
  rw [Nat.pow_succ]
  omega)
set_option maxHeartbeats 2000000 in
set_option maxRecDepth 100000 in
theorem Parse_rest (s : ByteArray) (l : List UInt8) (hl : s.toList = l) (hsz : l.length = s.size) (w : World) (hsi : (s.size : Int) ≤ 1000000) (hp : 0 < s.size) (e1 : ¬ s.toList = []) (e2 : s.toList.isEmpty = false)
    (e34 : decide ((1 : Int) < s.size) = false ∨ ((1 : Int) < s.size ∧ ((s[0].toNat : Int) == 48) = false)) (hfb : formB l = allDig l) :
    Calls Try.prog 29 #[.string s] w fun e w' => Num2 w w' e (parseS l) := by
  have HSZ := Lib.hid hsz
  have HL := Lib.hid hl
  have HFB := Lib.hid hfb
  clear hl hsz hfb
  rcases e34 with e3 | ⟨e3, e4⟩
  all_goals
    go_enter Try.func29, Try.ntmps29
    go_wp2_with fail
    go_loop [21] (fun v => ∃ k : Nat, k ≤ s.size ∧ v = .int .i64 k ∧ Hid (∀ j (h : j < l.length), j < k → 48 ≤ l[j].toNat ∧ l[j].toNat ≤ 57)) (fun v => s.size - (intOf v).toNat)
    case atStart => exact ⟨0, by omega, rfl, fun j h hj => absurd hj (Nat.not_lt_zero _)⟩
    case round =>
      obtain ⟨k, hk, rfl, HA⟩ := hrel
      by_cases hkn : k < s.size
      · have hb := byte_get HL.out hkn (by have := HSZ.out; omega)
        have hkl : k < l.length := by have := HSZ.out; omega
        have hki : (k : Int) < s.size := by omega
        rcases (by omega : l[k].toNat < 48 ∨ 57 < l[k].toNat ∨ (48 ≤ l[k].toNat ∧ l[k].toNat ≤ 57)) with h | h | h
        · have HS : Hid (parseS l = ([], 12)) := parseS_no (by rw [HFB.out]; exact allDig_no hkl (.inl h))
          have t1 : (s[k].toNat : Int) < 48 := by rw [hb]; omega
          clear h hb
          go_wp2_with fail
          go_ret2
          exact Num2.no HS.out (Below.refl _ _)
        · have HS : Hid (parseS l = ([], 12)) := parseS_no (by rw [HFB.out]; exact allDig_no hkl (.inr h))
          have t1 : decide ((s[k].toNat : Int) < 48) = false := by rw [hb]; simp; omega
          have t2 : decide ((57 : Int) < (s[k].toNat : Int)) = true := by rw [hb]; simp; omega
          clear h hb
          go_wp2_with fail
          go_ret2
          exact Num2.no HS.out (Below.refl _ _)
        · have t1 : decide ((s[k].toNat : Int) < 48) = false := by rw [hb]; simp; omega
          have t2 : decide ((57 : Int) < (s[k].toNat : Int)) = false := by rw [hb]; simp; omega
          have HA2 : Hid (∀ j (h : j < l.length), j < k + 1 → 48 ≤ l[j].toNat ∧ l[j].toNat ≤ 57) := fun j hj hjk => by
            by_cases e : j = k
            · subst e; exact h
            · exact HA.out j hj (by omega)
          clear h hb
          go_wp2_with fail
          go_round
          case rel => exact ⟨k + 1, by omega, by go_num, HA2⟩
          case measure => simp [intOf]; omega
      · obtain rfl : k = s.size := by omega
        have HD : Hid (∀ j (h : j < l.length), 48 ≤ l[j].toNat ∧ l[j].toNat ≤ 57) := fun j hj => HA.out j hj (by have := HSZ.out; omega)
        have HS : Hid (parseS l = limS (decV l)) := parseS_yes (by rw [HFB.out]; exact allDig_yes HD.out)
        clear HA hk hkn
        go_wp2_with fail
        go_loopw [5, 37] (fun va vk wr => ∃ (k : Nat) (X : Option Addr) (cx : Nat), k ≤ s.size ∧ vk = .int .i64 k ∧ va = .slice X (digs (decV (l.take k))).length cx ∧ Hid (NF w.heap.size wr X cx (digs (decV (l.take k)))) ∧ (digs (decV (l.take k))).length ≤ 16 ∧ Below w.heap.size w wr) (fun _ vk _ => s.size - (intOf vk).toNat)
        case atStart => exact ⟨0, none, 0, by omega, rfl, rfl, NF.nil _ _, by simp [decV_nil, digs_zero], Below.refl _ _⟩
        case round =>
          obtain ⟨k, X, cx, hk, rfl, rfl, RX, lx, hbel⟩ := hrel
          obtain ⟨wo, rfl⟩ : ∃ wo : World, wo = wr := ⟨_, rfl⟩
          by_cases hkn : k < s.size
          · have hb := byte_get HL.out hkn (by have := HSZ.out; omega)
            have hkl : k < l.length := by have := HSZ.out; omega
            have hki : (k : Int) < s.size := by omega
            have hki0 : (0 : Int) ≤ k := by omega
            obtain ⟨d1, d2⟩ := HD.out k hkl
            obtain ⟨d, hd⟩ : ∃ d : Nat, l[k].toNat - 48 = d := ⟨_, rfl⟩
            have hdi : (s[k].toNat : Int) - 48 = (d : Int) := by rw [hb]; omega
            have HN : Hid (decV (l.take (k + 1)) = decV (l.take k) * 10 + d) := by rw [← hd]; exact decV_next hkl
            have hd9 : d ≤ 9 := by omega
            have hc1 : (48 : Int) ≤ (s[k].toNat : Int) := by rw [hb]; omega
            have hc2 : (s[k].toNat : Int) ≤ 57 := by rw [hb]; omega
            have hw1 : IntKind.u8.wrap (d : Int) = d := IntWalk.u8_in _ (by omega)
            have hw2 : IntKind.u64.wrap (d : Int) = d := IntWalk.u64_in _ (by omega)
            generalize decV (l.take k) = v at *
            have HV10 : Hid ((digs (v * 10)).length ≤ 17) := mul_ten_len lx
            clear hb d1 d2 hd
            have HVL : Hid ((digs (v * 10 + d)).length ≤ 18) := by
              have h1 := lt_of_digs_len HV10.out
              refine digs_len_le ?_
              rw [Nat.pow_succ]
              omega
            go_upto_region 13 with fail
            go_cut [5] from 40 to 49 (fun va wx => ∃ Y cy, va = .slice Y (digs (v * 10 + d)).length cy ∧ NF w.heap.size wx Y cy (digs (v * 10 + d)) ∧ Below w.heap.size w wx)
            case first =>
              have hbelD : Below w.heap.size w wo.drew := hbel.drew
              go_region_with (first
                | (go_at_call 80; go_loud (refine (times_any X cx (digs v) _ 1 [10] _ rfl rfl (by first | exact RX.out.1.drew.alloc _ | exact RX.out.1.alloc _) (NR.ten _ _ rfl) (by omega) (by simp)).mono ?_; rintro e w2 ⟨T, ct, rfl, hT, hb2⟩; rw [val_digs, val_ten] at hT ⊢))
                | (go_at_call 32; go_loud (refine (Of_any d _ (by omega)).mono ?_; rintro e w3 ⟨D, cd, rfl, hD, hb3⟩))
                | (go_at_call 79; go_loud (refine (plus_any T ct (digs (v * 10)) D cd (digs d) _ rfl rfl (hT.1.below hb3) hD.1 (by have := HV10.out; omega) (by have := digs_len_le (n := d) (k := 1) (by omega); omega)).mono ?_; rintro e w4 ⟨Y, cy, rfl, hY, hb4⟩; rw [val_digs, val_digs] at hY ⊢)))
              all_goals
                have hba := (hbelD.alloc hbelD.size (.cells #[.int .u32 10] 85)).trans (hb2.mono (by have := hbel.size; simp; omega))
                have hbb := hba.trans (hb3.mono hba.size)
                go_wp2_with fail
                go_meet
                exact ⟨Y, cy, rfl, hY.mono hbb.size, hbb.trans (hb4.mono hbb.size)⟩
            case rest =>
              obtain ⟨Y, cy, rfl, hY, hbel2⟩ := hcut
              have HY := Lib.hid hY
              have lyi : ((digs (v * 10 + d)).length : Int) ≤ 18 := by have := HVL.out; omega
              clear hY hbel
              by_cases h16 : (digs (v * 10 + d)).length ≤ 16
              · have t1 : decide ((16 : Int) < (digs (v * 10 + d)).length) = false := by simp; omega
                have H16 := Lib.hid h16
                clear h16
                go_wp2_with fail
                go_roundw
                case rel => exact ⟨k + 1, Y, cy, by omega, by go_num, by rw [HN.out], by rw [HN.out]; exact HY.out, by rw [HN.out]; exact H16.out, hbel2⟩
                case measure => simp [intOf]; omega
              · have t1 : decide ((16 : Int) < (digs (v * 10 + d)).length) = true := by simp; omega
                have HO : Hid (limS (decV l) = ([], 4)) := decV_over (k := k + 1) (by rw [HN.out]; omega)
                have H16 : Hid (16 < (digs (v * 10 + d)).length) := by unfold Hid; omega
                clear h16
                go_wp2_with fail
                refine (limited_any Y _ cy _).mono ?_
                rintro e w3 ⟨rfl, rfl⟩
                rw [limV_no H16.out]
                go_wp2_with fail
                go_ret2
                exact Num2.no (HS.out.trans HO.out) hbel2
          · obtain rfl : k = s.size := by omega
            have HT : Hid (l.take s.size = l) := List.take_of_length_le (by have := HSZ.out; omega)
            rw [HT.out] at lx RX ⊢
            have HLM : Hid (limS (decV l) = (digs (decV l), 0)) := limS_yes lx
            go_wp2_with fail
            refine (limited_any X _ cx _).mono ?_
            rintro e w3 ⟨rfl, rfl⟩
            rw [limV_yes lx]
            go_wp2_with fail
            go_ret2
            exact Num2.yes (HS.out.trans HLM.out) rfl RX.out hbel
set_option maxHeartbeats 2000000 in
set_option maxRecDepth 100000 in
theorem Parse_any (s : ByteArray) (l : List UInt8) (hl : s.toList = l) (w : World) (hs : s.size ≤ 1000000) :
    Calls Try.prog 29 #[.string s] w fun e w' => Num2 w w' e (parseS l) := by
  have hsz := byte_len hl
  have HSZ := Lib.hid hsz
  have hsi : (s.size : Int) ≤ 1000000 := by omega
  have HL := Lib.hid hl
  by_cases h0 : l = []
  · have HS : Hid (parseS l = ([], 12)) := parseS_no (by rw [h0]; rfl)
    have e1 : s.toList = [] := by rw [hl, h0]
    have e2 : s.toList.isEmpty = true := by rw [e1]; rfl
    clear hl hsz h0
    go_enter Try.func29, Try.ntmps29
    go_wp2_with fail
    go_ret2
    exact Num2.no HS.out (Below.refl _ _)
  · have e1 : ¬ s.toList = [] := by rw [hl]; exact h0
    have e2 : s.toList.isEmpty = false := by rw [hl]; simpa using h0
    have hp : 0 < s.size := by have := List.length_pos_iff.2 h0; omega
    have hg0 : l.getD 0 0 = s[0] := by rw [getD_zero (by omega)]; exact (byte_get hl hp (by omega)).symm
    rcases headB_cases l h0 with ⟨h1, h2, h3⟩ | ⟨h1, h3⟩ | ⟨h1, h2, h3⟩
    · have HS : Hid (parseS l = ([], 12)) := parseS_no (by rw [formB_eq, h3]; rfl)
      have e3 : (1 : Int) < s.size := by omega
      have e4 : ((s[0].toNat : Int) == 48) = true := by rw [← hg0, h2]; rfl
      clear hl hsz h0 hg0 h1 h2 h3
      go_enter Try.func29, Try.ntmps29
      go_wp2_with fail
      go_ret2
      exact Num2.no HS.out (Below.refl _ _)
    · have e3 : decide ((1 : Int) < s.size) = false := by simp; omega
      have HFB : Hid (formB l = allDig l) := by unfold Hid; rw [formB_eq, h3]; rfl
      clear hl hsz h0 hg0 h1 h3
      exact Parse_rest s l HL.out HSZ.out w hsi hp e1 e2 (.inl e3) HFB.out
    · have e3 : (1 : Int) < s.size := by omega
      have e4 : ((s[0].toNat : Int) == 48) = false := by
        rw [beq_eq_false_iff_ne]
        intro e
        exact h2 (by rw [hg0]; exact UInt8.toNat_inj.1 (by rw [show ((48 : UInt8)).toNat = 48 from rfl]; omega))
      have HFB : Hid (formB l = allDig l) := by unfold Hid; rw [formB_eq, h3]; rfl
      clear hl hsz h0 hg0 h1 h2 h3
      exact Parse_rest s l HL.out HSZ.out w hsi hp e1 e2 (.inr ⟨e3, e4⟩) HFB.out
end Go.Proofs.Ytphaojdfeojpeaa
