/-
  The walk of the law NumberTextBack.
-/
import Derived.Test.YtphaojdfeojpeaaOutAid
import Derived.Test.YtphaojdfeojpeaaPlainBack
namespace Go.Proofs.Ytphaojdfeojpeaa
open Go.RowKit
set_option linter.unusedVariables false

set_option maxHeartbeats 4000000 in
set_option maxRecDepth 100000 in
theorem numberTextBack_walk (A : Option Addr) (ca : Nat) (a : List Nat) (s : ByteArray) (w : World) (ha : NR w A ca a) (hs0 : s.size ≤ 9223372036854775807) :
    Calls Try.prog 15 #[.slice A a.length ca, .string s] w fun e w' => e = .returned (.bool true) ∧ Below w.heap.size w w' := by
  obtain ⟨l, hl⟩ : ∃ l, s.toList = l := ⟨_, rfl⟩
  have HLS : Hid (strB l = s) := by
    apply ByteArray.ext
    apply Array.toList_inj.1
    rw [← hl, ByteArray.toList_eq]; rfl
  have HL := Lib.hid hl
  have hsi : (s.size : Int) ≤ 9223372036854775807 := by omega
  clear hl hs0
  have k : Below w.heap.size w w := Below.refl _ _
  have Ra := Lib.hid ha
  clear ha
  go_enter Try.func15, Try.ntmps15
  go_wp2_with fail
  refine (alive_any _).mono ?_
  rintro e w1 ⟨rfl, b1⟩
  replace Ra := Lib.hid (Ra.out.below b1)
  replace k := k.trans (b1.mono k.size)
  clear b1
  go_wp2_with fail
  refine (refValid_any A ca a _ rfl Ra.out).mono ?_
  rintro e w2 ⟨rfl, rfl⟩
  rcases bool_ways (validB a) with va | va
  · rw [va]
    clear va
    rcases Nat.lt_or_ge 700 s.size with h7 | h7
    · have t7 : decide ((700 : Int) < s.size) = true := by simp; omega
      clear h7
      go_wp2_with fail
      go_ret
      exact ⟨rfl, k⟩
    have t7 : decide ((700 : Int) < s.size) = false := by simp; omega
    go_wp2_with fail
    refine (Parse_any s l HL.out _ (by omega)).mono ?_
    rintro e w3 ⟨X3, c3, rfl, h, b3⟩
    replace Ra := Lib.hid (Ra.out.below b3)
    replace k := k.trans (b3.mono k.size)
    have H3 : Hid (NR w3 X3 c3 (parseS l).1) := h.1
    clear b3
    clear h h7
    rcases bool_ways (formB l) with hf | hf
    · rw [parseS_no hf]
      clear hf
      go_wp2_with fail
      go_ret
      exact ⟨rfl, k⟩
    rw [parseS_yes hf] at H3 ⊢
    have HF := Lib.hid hf
    clear hf
    rcases lim_ways (decV l) with ⟨l1, n1⟩ | ⟨l1, n1⟩
    · rw [l1]
      clear l1 n1
      go_wp2_with fail
      go_ret
      exact ⟨rfl, k⟩
    rw [l1] at H3 ⊢
    have N1 := Lib.hid (validB_of n1)
    clear l1 n1
    go_wp2_with fail
    refine (Text_any X3 c3 (digs (decV l)) _ rfl H3.out).mono ?_
    rintro e w4 ⟨rfl, b4⟩
    replace Ra := Lib.hid (Ra.out.below b4)
    replace H3 := Lib.hid (H3.out.below b4)
    replace k := k.trans (b4.mono k.size)
    rw [show txtS (digs (decV l)) = (s, 0) from by rw [txtS, N1.out, if_pos rfl, val_digs, dec_of_form HF.out, HLS.out]]
    clear b4
    go_wp2_with fail
    refine (Check_any X3 c3 (digs (decV l)) _ rfl H3.out).mono ?_
    rintro e w5 ⟨rfl, b5⟩
    replace Ra := Lib.hid (Ra.out.below b5)
    replace H3 := Lib.hid (H3.out.below b5)
    replace k := k.trans (b5.mono k.size)
    rw [show chkS (digs (decV l)) = 0 from by rw [chkS, N1.out]; rfl]
    clear b5
    go_wp2_with fail
    go_ret
    exact ⟨by first | rfl | simp, k⟩
  · rw [va]
    have VA := Lib.hid va
    have HDA : Hid (digs (val a) = a) := valid_digs va Ra.out.dig
    have LA : Hid ((digs (val a)).length ≤ 16) := by rw [HDA.out]; exact (valid_dig va).2
    clear va
    go_wp2_with fail
    refine (Text_any A ca a _ rfl Ra.out).mono ?_
    rintro e w3 ⟨rfl, b3⟩
    replace Ra := Lib.hid (Ra.out.below b3)
    replace k := k.trans (b3.mono k.size)
    rw [show txtS a = (strB (decR (val a)).reverse, 0) from by rw [txtS, VA.out]; rfl]
    clear b3
    go_wp2_with fail
    refine (Parse_any (strB (decR (val a)).reverse) (decR (val a)).reverse (strB_of _) _ (by rw [strB_size, List.length_reverse]; have := decR_len16 LA.out; omega)).mono ?_
    rintro e w4 ⟨X4, c4, rfl, h, b4⟩
    replace Ra := Lib.hid (Ra.out.below b4)
    replace k := k.trans (b4.mono k.size)
    rw [show parseS (decR (val a)).reverse = (a, 0) from by rw [parseS_yes (form_dec _), decV_dec, limS_yes LA.out, HDA.out]] at h ⊢
    have H4 : Hid (NR w4 X4 c4 a) := h.1
    clear b4
    clear h
    go_wp2_with fail
    refine (Same_any A ca a X4 c4 a _ rfl rfl Ra.out H4.out).mono ?_
    rintro e w5 ⟨rfl, b5⟩
    replace Ra := Lib.hid (Ra.out.below b5)
    replace H4 := Lib.hid (H4.out.below b5)
    replace k := k.trans (b5.mono k.size)
    rw [sameB_self]
    clear b5
    clear H4
    rcases Nat.lt_or_ge 700 s.size with h7 | h7
    · have t7 : decide ((700 : Int) < s.size) = true := by simp; omega
      clear h7
      go_wp2_with fail
      go_ret
      exact ⟨rfl, k⟩
    have t7 : decide ((700 : Int) < s.size) = false := by simp; omega
    go_wp2_with fail
    refine (Parse_any s l HL.out _ (by omega)).mono ?_
    rintro e w6 ⟨X6, c6, rfl, h, b6⟩
    replace Ra := Lib.hid (Ra.out.below b6)
    replace k := k.trans (b6.mono k.size)
    have H6 : Hid (NR w6 X6 c6 (parseS l).1) := h.1
    clear b6
    clear h h7
    rcases bool_ways (formB l) with hf | hf
    · rw [parseS_no hf]
      clear hf
      go_wp2_with fail
      go_ret
      exact ⟨rfl, k⟩
    rw [parseS_yes hf] at H6 ⊢
    have HF := Lib.hid hf
    clear hf
    rcases lim_ways (decV l) with ⟨l1, n1⟩ | ⟨l1, n1⟩
    · rw [l1]
      clear l1 n1
      go_wp2_with fail
      go_ret
      exact ⟨rfl, k⟩
    rw [l1] at H6 ⊢
    have N1 := Lib.hid (validB_of n1)
    clear l1 n1
    go_wp2_with fail
    refine (Text_any X6 c6 (digs (decV l)) _ rfl H6.out).mono ?_
    rintro e w7 ⟨rfl, b7⟩
    replace Ra := Lib.hid (Ra.out.below b7)
    replace H6 := Lib.hid (H6.out.below b7)
    replace k := k.trans (b7.mono k.size)
    rw [show txtS (digs (decV l)) = (s, 0) from by rw [txtS, N1.out, if_pos rfl, val_digs, dec_of_form HF.out, HLS.out]]
    clear b7
    go_wp2_with fail
    refine (Check_any X6 c6 (digs (decV l)) _ rfl H6.out).mono ?_
    rintro e w8 ⟨rfl, b8⟩
    replace Ra := Lib.hid (Ra.out.below b8)
    replace H6 := Lib.hid (H6.out.below b8)
    replace k := k.trans (b8.mono k.size)
    rw [show chkS (digs (decV l)) = 0 from by rw [chkS, N1.out]; rfl]
    clear b8
    go_wp2_with fail
    go_ret
    exact ⟨by first | rfl | simp, k⟩
end Go.Proofs.Ytphaojdfeojpeaa
