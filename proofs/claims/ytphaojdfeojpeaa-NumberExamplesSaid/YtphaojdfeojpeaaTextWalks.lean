/-
  Decimal texts of numbers: the program's and the reference's.
-/
import Derived.Test.YtphaojdfeojpeaaByteRow
import Derived.Test.YtphaojdfeojpeaaPlainText
import Derived.Test.YtphaojdfeojpeaaNatSame
namespace Go.Proofs.Ytphaojdfeojpeaa
open Go.RowKit
set_option linter.unusedVariables false

/-- The text of a number, or none. -/
def txtS (a : List Nat) : ByteArray × Int := if validB a = true then (strB (decR (val a)).reverse, 0) else (strB [], 8)
theorem tuple_str {s t : ByteArray} {x y : Int} (h : s = t) (h2 : x = y) : Ending.returned (.tuple #[.string s, .int .i64 x]) = .returned (.tuple #[.string t, .int .i64 y]) := by rw [h, h2]
theorem digs_ten : digs 10 = [10] := by rw [digs_pos (by omega)]; rfl
theorem val_ten : val [10] = 10 := rfl
theorem NR.ten (w : World) (e : Value) (he : e = .int .u32 10) : NR (w.alloc (.cells #[e] 85)) (some ⟨w.heap.size, 0, none⟩) 1 [10] := by
  subst he
  exact ((BlkN.lit1 w 10 (by omega)).nf (B := 0) (Nat.zero_le _) (by simp) (by simp) (by simp)).1
theorem ten_len (x : Nat) : (digs (x / 10)).length ≤ (digs x).length := digs_len_mono (Nat.div_le_self x 10)
theorem dch_cast (x : Nat) : ((dch x).toNat : Int) = 48 + ((x % 10 : Nat) : Int) := by rw [dch_toNat]; omega

set_option maxHeartbeats 2000000 in
set_option maxRecDepth 100000 in
theorem Text_any (A : Option Addr) (ca : Nat) (a : List Nat) (w : World) {na : Nat} (hna : a.length = na) (ha : NR w A ca a) :
    Calls Try.prog 27 #[.slice A na ca] w fun e w' => e = .returned (.tuple #[.string (txtS a).1, .int .i64 (txtS a).2]) ∧ Below w.heap.size w w' := by
  have Ha := Lib.hid hna
  have Ra := Lib.hid ha
  rcases (by cases validB a <;> simp : validB a = false ∨ validB a = true) with h | h
  · have HV := Lib.hid h
    have HS : Hid (txtS a = (strB [], 8)) := by unfold Hid txtS; rw [h]; rfl
    clear hna ha h
    go_enter Try.func27, Try.ntmps27
    go_wp2_with fail
    refine (valid_one A ca a w Ha.out Ra.out _).mono ?_
    rintro e w1 ⟨rfl, rfl⟩
    rw [HV.out]
    go_wp2_with fail
    go_ret2
    exact ⟨by rw [HS.out]; rfl, alloc_below _ _⟩
  · obtain ⟨v1, v2⟩ := validB_iff.1 h
    have HV := Lib.hid h
    have HS : Hid (txtS a = (strB (decR (val a)).reverse, 0)) := by unfold Hid txtS; rw [h]; rfl
    have Ea := digs_val ha.dig v2
    have HD : Hid (a = digs (val a)) := Ea.symm
    have L1 : na ≤ 16 := by omega
    generalize hx0 : val a = x0 at *
    have HL0 : Hid ((digs x0).length = na) := by rw [Ea]; exact hna
    have HR0 : Hid (NR w A ca (digs x0)) := by rw [Ea]; exact ha
    clear hna ha h v1 v2 Ea hx0
    go_enter Try.func27, Try.ntmps27
    go_wp2_with fail
    refine (valid_one A ca a w Ha.out Ra.out _).mono ?_
    rintro e w1 ⟨rfl, rfl⟩
    rw [HV.out]
    obtain ⟨W, hW⟩ : ∃ W : World, W = w.alloc (.cells #[.slice A na ca] 41) := ⟨_, rfl⟩
    have bW : Below w.heap.size w W := by rw [hW]; exact alloc_below _ _
    rw [← hW]
    clear hW
    go_wp2_with fail
    go_loopg [0, 4] x0 (fun g va vo wr => ∃ (X : Option Addr) (cx : Nat) (O : Option Addr) (co : Nat) (o : List UInt8), va = .slice X (digs g).length cx ∧ vo = .slice O o.length co ∧ Hid (o ++ decR g = decR x0) ∧ Hid (NR wr X cx (digs g)) ∧ (digs g).length ≤ 16 ∧ o.length ≤ 155 ∧ Hid (OB w.heap.size wr O co o) ∧ Below w.heap.size w wr)
    case atStart => exact ⟨A, ca, none, 0, [], by rw [HL0.out], rfl, rfl, HR0.out.below bW, by have := HL0.out; omega, by simp, OB.nil _ _, bW⟩
    case round =>
      obtain ⟨X, cx, O, co, o, rfl, rfl, HI, RX, lx, lo, HO, hbel⟩ := hrel
      obtain ⟨wo, rfl⟩ : ∃ wo : World, wo = wr := ⟨_, rfl⟩
      have hlen : Hid (o.length + 1 ≤ 155) := by
        have h1 := congrArg List.length HI.out
        rw [List.length_append] at h1
        have h2 := decR_len16 (n := x0) (by have := HL0.out; omega)
        have h3 : 0 < (decR gk).length := List.length_pos_iff.2 (decR_ne gk)
        unfold Hid; omega
      have loi : (o.length : Int) ≤ 155 := by omega
      have lxi : ((digs gk).length : Int) ≤ 16 := by omega
      go_wp2_with fail
      refine (parted_any X cx (digs gk) _ 1 [10] _ rfl rfl (RX.out.alloc _) (NR.ten _ _ rfl) (Trm.digs _) (.inr (by decide)) (by simp) (by omega) (by simp)).mono ?_
      rintro e w2 ⟨Q, cq, R, cr, rfl, hQ, hR, hap, hb2⟩
      rw [val_digs, val_ten] at hQ hR ⊢
      have hb2' : Below w.heap.size w w2 := (hbel.alloc hbel.size _).trans (hb2.mono (by have := hbel.size; simp; omega))
      have HQF := Lib.hid hQ
      have HRR := Lib.hid hR.1
      have HO2 : Hid (OB w.heap.size w2 O co o) := (HO.out.below (alloc_below _ _)).below hb2
      clear hQ hR hap hb2
      go_wp2_with fail
      refine (digit_any R cr (digs (gk % 10)) 0 _ rfl HRR.out (by omega)).mono ?_
      rintro e w3 ⟨rfl, rfl⟩
      rw [dg_digs_small (show gk % 10 < 4294967296 by omega)]
      obtain ⟨d, hd⟩ : ∃ d, gk % 10 = d := ⟨_, rfl⟩
      have hdi : (d : Int) ≤ 9 := by omega
      have HDC : Hid (((dch gk).toNat : Int) = 48 + (d : Int)) := by rw [dch_cast, hd]; rfl
      have HD2 := Lib.hid hd
      rw [hd]
      clear hd
      have hsz2 := hb2'.size
      by_cases hg : gk < 10
      · have t1 : (((digs (gk / 10)).length : Int) == 0) = true := by rw [show gk / 10 = 0 from by omega]; rfl
        have t1' : ((digs (gk / 10)).length == 0) = true := by rw [show gk / 10 = 0 from by omega]; rfl
        have HF : Hid (o ++ [dch gk] = decR x0) := by rw [← HI.out, decR_small hg]; rfl
        clear hg
        go_wp2_with (at_builtin; go_loud (refine wpList_append_byte _ rfl (.tmp 17) (.tmp 22) rfl w.heap.size O o.length co o rfl rfl (HO2.out.below (alloc_below _ _)) (dch gk) (some ⟨_, 0, none⟩) 1 rfl (by rw [HDC.out]; exact Src.one w2 _ _) (by omega) (by simp <;> omega) ?_); intro A' c' w3 hon hbel3 hgr)
        have HON := Lib.hid hon
        clear hon
        have hb3' : Below w.heap.size w w3 := (hb2'.alloc hb2'.size _).trans hbel3
        refine (Reverse_any w.heap.size A' c' (o ++ [dch gk]) _ (by simp) HON.out (by omega)).mono ?_
        rintro e w4 ⟨⟨vv, rfl⟩, hrev, hbel4⟩
        have hb4' := hb3'.trans hbel4
        clear hgr
        have hconv := run_string_row hrev (by simp) (o.length + 1) (by simp)
        rw [HF.out] at hconv
        clear hrev hbel3
        go_wp2_with fail
        go_ret2
        exact ⟨by rw [HS.out]; rfl, hb4'⟩
      · have hp := digs_len_pos (n := gk / 10) (by omega)
        have t1 : (((digs (gk / 10)).length : Int) == 0) = false := by rw [beq_eq_false_iff_ne]; omega
        have t1' : ((digs (gk / 10)).length == 0) = false := by rw [beq_eq_false_iff_ne]; omega
        have HF : Hid ((o ++ [dch gk]) ++ decR (gk / 10) = decR x0) := by rw [← HI.out, decR_big (by omega : 10 ≤ gk), List.append_assoc]; rfl
        have HLT : Hid (gk / 10 < gk) := by unfold Hid; omega
        have HL2 : Hid ((digs (gk / 10)).length ≤ 16) := by have := ten_len gk; unfold Hid; omega
        clear hg hp
        go_wp2_with (at_builtin; go_loud (refine wpList_append_byte _ rfl (.tmp 17) (.tmp 22) rfl w.heap.size O o.length co o rfl rfl (HO2.out.below (alloc_below _ _)) (dch gk) (some ⟨_, 0, none⟩) 1 rfl (by rw [HDC.out]; exact Src.one w2 _ _) (by omega) (by simp <;> omega) ?_); intro A' c' w3 hon hbel3 hgr)
        have HON := Lib.hid hon
        clear hon
        have hb3' : Below w.heap.size w w3 := (hb2'.alloc hb2'.size _).trans hbel3
        have RQ3 : Hid (NR w3 Q cq (digs (gk / 10))) := NF.grownOB (HQF.out.below (alloc_below _ _)) HO.out (by simp) rfl hgr
        clear hgr
        go_roundg (gk / 10)
        case measure => exact HLT.out
        case rel => exact ⟨Q, cq, A', c', o ++ [dch gk], rfl, by simp, HF.out, RQ3.out, HL2.out, by have := hlen.out; simpa using this, HON.out, hb3'⟩

theorem strB_append (a b : List UInt8) : strB a ++ strB b = strB (a ++ b) := by
  apply ByteArray.ext
  simp [strB]
theorem run_string_one (W : World) (y : UInt8) (v : Value) (hv : v = .int .u8 (y.toNat : Int)) (g : Nat) (h : W.cell? ⟨g, 0, none⟩ = some v) : (convert 99 9 (.slice (some ⟨g, 0, none⟩) 1 1)).run Try.prog W = .ok (.string (strB [y])) W := by
  subst hv
  exact run_convert_bytes_back W 99 9 5 ⟨g, 0, none⟩ 1 [y] Try.underlying99 Try.underlying5 Try.underlying9 (fun j hj => by
    have : j = 0 := by simpa using hj
    subst this
    rw [Addr.add_lit]
    exact h)

set_option maxHeartbeats 2000000 in
set_option maxRecDepth 100000 in
theorem refDecimal_any (A : Option Addr) (ca : Nat) (a : List Nat) (w : World) {na : Nat} (hna : a.length = na) (ha : NR w A ca a) (hv : validB a = true) :
    Calls Try.prog 78 #[.slice A na ca] w fun e w' => e = .returned (.string (strB (decR (val a)).reverse)) ∧ Below w.heap.size w w' := by
  obtain ⟨v1, v2⟩ := validB_iff.1 hv
  have Ea := digs_val ha.dig v2
  have L1 : na ≤ 16 := by omega
  generalize hx0 : val a = x0 at *
  have HL0 : Hid ((digs x0).length = na) := by rw [Ea]; exact hna
  have HR0 : Hid (NR w A ca (digs x0)) := by rw [Ea]; exact ha
  clear hna ha hv v1 v2 Ea hx0
  go_enter Try.func78, Try.ntmps78
  go_wp2_with fail
  go_loopg [0, 3] x0 (fun g va vs wr => ∃ (X : Option Addr) (cx : Nat) (l : List UInt8), va = .slice X (digs g).length cx ∧ vs = .string (strB l) ∧ Hid (l.reverse ++ decR g = decR x0) ∧ Hid (NR wr X cx (digs g)) ∧ (digs g).length ≤ 16 ∧ l.length ≤ 155 ∧ Below w.heap.size w wr)
  case atStart => exact ⟨A, ca, [], by rw [HL0.out], rfl, rfl, HR0.out, by have := HL0.out; omega, by simp, Below.refl _ _⟩
  case round =>
    obtain ⟨X, cx, l, rfl, rfl, HI, RX, lx, ll, hbel⟩ := hrel
    obtain ⟨wo, rfl⟩ : ∃ wo : World, wo = wr := ⟨_, rfl⟩
    have hlen : Hid (l.length + 1 ≤ 155) := by
      have h1 := congrArg List.length HI.out
      rw [List.length_append, List.length_reverse] at h1
      have h2 := decR_len16 (n := x0) (by have := HL0.out; omega)
      have h3 : 0 < (decR gk).length := List.length_pos_iff.2 (decR_ne gk)
      unfold Hid; omega
    have lxi : ((digs gk).length : Int) ≤ 16 := by omega
    go_wp2_with fail
    refine (refOf_any 10 _ (by omega)).mono ?_
    rintro e w1 ⟨T, ct, rfl, hT, hb1⟩
    have hb1' : Below w.heap.size w w1 := hbel.trans (hb1.mono hbel.size)
    go_wp2_with fail
    refine (refParted_any X cx (digs gk) T ct (digs 10) _ rfl rfl (RX.out.below hb1) hT.1 (Trm.digs _) (digs_ne (by omega)) (by omega) (by rw [digs_ten]; simp)).mono ?_
    rintro e w2 ⟨Q, cq, R, cr, rfl, hQ, hR, hap, hb2⟩
    rw [val_digs, val_digs] at hQ hR ⊢
    have hb2' : Below w.heap.size w w2 := hb1'.trans (hb2.mono hb1'.size)
    have HQF := Lib.hid hQ
    have HRR := Lib.hid hR.1
    clear hQ hR hap hb1 hb2 hT hb1'
    go_wp2_with fail
    refine (refAt_any R cr (digs (gk % 10)) 0 _ rfl HRR.out (by omega)).mono ?_
    rintro e w3 ⟨rfl, rfl⟩
    rw [dg_digs_small (show gk % 10 < 4294967296 by omega)]
    obtain ⟨d, hd⟩ : ∃ d, gk % 10 = d := ⟨_, rfl⟩
    have hdi : (d : Int) ≤ 9 := by omega
    have HDC : Hid (48 + (d : Int) = ((dch gk).toNat : Int)) := by rw [dch_cast, hd]; rfl
    have HD2 := Lib.hid hd
    rw [hd]
    clear hd
    have hsz2 := hb2'.size
    have hconv := run_string_one (w2.alloc (.cells #[.int .u8 (48 + (d : Int))] 5)) (dch gk) (.int .u8 (48 + (d : Int))) (by rw [HDC.out]) w2.heap.size (by simp)
    have sz1 : (strB [dch gk]).size ≤ 1000 := by rw [strB_size]; simp
    have sz2 : (strB l).size ≤ 1000 := by rw [strB_size]; omega
    by_cases hg : gk < 10
    · have t1 : (((digs (gk / 10)).length : Int) == 0) = true := by rw [show gk / 10 = 0 from by omega]; rfl
      have t1' : ((digs (gk / 10)).length == 0) = true := by rw [show gk / 10 = 0 from by omega]; rfl
      have HF : Hid (dch gk :: l = (decR x0).reverse) := by rw [← HI.out, decR_small hg]; simp [Hid]
      clear hg
      go_wp2_with fail
      go_ret
      exact ⟨by rw [strB_append]; exact congrArg (fun x => Ending.returned (.string (strB x))) HF.out, hb2'.alloc hsz2 _⟩
    · have hp := digs_len_pos (n := gk / 10) (by omega)
      have t1 : (((digs (gk / 10)).length : Int) == 0) = false := by rw [beq_eq_false_iff_ne]; omega
      have t1' : ((digs (gk / 10)).length == 0) = false := by rw [beq_eq_false_iff_ne]; omega
      have HF : Hid ((dch gk :: l).reverse ++ decR (gk / 10) = decR x0) := by rw [← HI.out, decR_big (by omega : 10 ≤ gk)]; simp [Hid]
      have HLT : Hid (gk / 10 < gk) := by unfold Hid; omega
      have HL2 : Hid ((digs (gk / 10)).length ≤ 16) := by have := ten_len gk; unfold Hid; omega
      clear hg hp
      go_wp2_with fail
      go_roundg (gk / 10)
      case measure => exact HLT.out
      case rel => exact ⟨Q, cq, dch gk :: l, rfl, by rw [strB_append]; rfl, HF.out, HQF.out.1.alloc _, HL2.out, by have := hlen.out; simpa using this, hb2'.alloc hsz2 _⟩

set_option maxHeartbeats 1000000 in
theorem refText_any (A : Option Addr) (ca : Nat) (a : List Nat) (w : World) {na : Nat} (hna : a.length = na) (ha : NR w A ca a) :
    Calls Try.prog 28 #[.slice A na ca] w fun e w' => e = .returned (.tuple #[.string (txtS a).1, .int .i64 (txtS a).2]) ∧ Below w.heap.size w w' := by
  have Ha := Lib.hid hna
  have Ra := Lib.hid ha
  rcases (by cases validB a <;> simp : validB a = false ∨ validB a = true) with h | h
  · have HV := Lib.hid h
    have HS : Hid (txtS a = (strB [], 8)) := by unfold Hid txtS; rw [h]; rfl
    clear hna ha h
    go_enter Try.func28, Try.ntmps28
    go_wp2_with fail
    refine (refValid_any A ca a w Ha.out Ra.out).mono ?_
    rintro e w1 ⟨rfl, rfl⟩
    rw [HV.out]
    go_wp2_with fail
    go_ret2
    exact ⟨by rw [HS.out]; rfl, Below.refl _ _⟩
  · have HV := Lib.hid h
    have HS : Hid (txtS a = (strB (decR (val a)).reverse, 0)) := by unfold Hid txtS; rw [h]; rfl
    clear hna ha h
    go_enter Try.func28, Try.ntmps28
    go_wp2_with fail
    refine (refValid_any A ca a w Ha.out Ra.out).mono ?_
    rintro e w1 ⟨rfl, rfl⟩
    rw [HV.out]
    go_wp2_with fail
    refine (refDecimal_any A ca a _ Ha.out Ra.out HV.out).mono ?_
    rintro e w1 ⟨rfl, hb1⟩
    go_wp2_with fail
    go_ret2
    exact ⟨by rw [HS.out]; rfl, hb1⟩
end Go.Proofs.Ytphaojdfeojpeaa
