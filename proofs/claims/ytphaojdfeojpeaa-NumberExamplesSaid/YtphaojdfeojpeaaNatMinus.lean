/-
  The reference's Order and Minus; minus.
-/
import Derived.Test.YtphaojdfeojpeaaOrder
import Derived.Test.YtphaojdfeojpeaaNatPlus
import Derived.StillTailTactics
import Derived.Deep.RegionWith
namespace Go.Proofs.Ytphaojdfeojpeaa
open Go.RowKit
set_option linter.unusedVariables false

theorem Calls_flip {P : Program} {f : FuncId} {args : Array Value} {w : World} {v : Value} (h : Calls P f args w fun e w' => e = .returned v ∧ w = w') : Calls P f args w fun e w' => e = .returned v ∧ w' = w :=
  h.mono fun _ _ ⟨h1, h2⟩ => ⟨h1, h2.symm⟩

set_option maxHeartbeats 1000000 in
theorem refOrder_any (A : Option Addr) (ca : Nat) (a : List Nat) (Bd : Option Addr) (cb : Nat) (b : List Nat) (w : World) {na nb : Nat} (hna : a.length = na) (hnb : b.length = nb) (ha : NR w A ca a) (hb : NR w Bd cb b) :
    Calls Try.prog 93 #[.slice A na ca, .slice Bd nb cb] w fun e w' => e = .returned (.int .i64 (cmpN (val a) (val b))) ∧ w = w' := by
  obtain ⟨n, hn1, hn2, hn3, hmx⟩ := max_is na nb
  have la : na ≤ 35184372088832 := by have := ha.len; omega
  have lb : nb ≤ 35184372088832 := by have := hb.len; omega
  have ln : n ≤ 35184372088832 := by omega
  have Hn := Lib.hid hn3
  have Ha := Lib.hid hna
  have Hb := Lib.hid hnb
  have Ra := Lib.hid ha
  have Rb := Lib.hid hb
  clear hna hnb ha hb hn3
  go_enter Try.func93, Try.ntmps93
  go_wp2_with fail
  go_loop [5] (fun vi => ∃ k : Nat, k ≤ n ∧ vi = .int .i64 ((k : Int) - 1) ∧ Hid (∀ j, k ≤ j → dg a j = dg b j)) (fun vi => (intOf vi + 1).toNat)
  case atStart => exact ⟨n, Nat.le_refl _, rfl, fun j hj => by have := Ha.out; have := Hb.out; rw [dg_out (by omega), dg_out (by omega)]⟩
  case round =>
    obtain ⟨k, hk, rfl, H⟩ := hrel
    by_cases h0 : 0 < k
    · obtain ⟨i, rfl⟩ : ∃ i, k = i + 1 := ⟨k - 1, by omega⟩
      have e1 : ((i + 1 : Nat) : Int) - 1 = i := by omega
      rw [e1]
      rcases Nat.lt_trichotomy (dg a i) (dg b i) with h | h | h
      · have t1 : decide (dg a i < dg b i) = true := by simpa using h
        have HV := Lib.hid (cmpN_lt (val_lt_of_top (i := i) Ra.out.dig (fun j hj => H.out j (by omega)) h))
        clear h
        go_wp2_with fail
        refine (refAt_any _ _ a i _ Ha.out Ra.out (by omega)).mono ?_
        rintro e w2 ⟨rfl, rfl⟩
        go_wp2_with fail
        refine (refAt_any _ _ b i _ Hb.out Rb.out (by omega)).mono ?_
        rintro e w2 ⟨rfl, rfl⟩
        go_wp2_with fail
        go_ret
        exact ⟨ret_int HV.out.symm, rfl⟩
      · have t1 : decide (dg a i < dg b i) = false := by simp; omega
        have t2 : decide (dg b i < dg a i) = false := by simp; omega
        have H2 : Hid (∀ j, i ≤ j → dg a j = dg b j) := fun j hj => by
          by_cases e : j = i
          · rw [e]; exact h
          · exact H.out j (by omega)
        clear h
        go_wp2_with fail
        refine (refAt_any _ _ a i _ Ha.out Ra.out (by omega)).mono ?_
        rintro e w2 ⟨rfl, rfl⟩
        go_wp2_with fail
        refine (refAt_any _ _ b i _ Hb.out Rb.out (by omega)).mono ?_
        rintro e w2 ⟨rfl, rfl⟩
        go_wp2_with fail
        refine (refAt_any _ _ a i _ Ha.out Ra.out (by omega)).mono ?_
        rintro e w2 ⟨rfl, rfl⟩
        go_wp2_with fail
        refine (refAt_any _ _ b i _ Hb.out Rb.out (by omega)).mono ?_
        rintro e w2 ⟨rfl, rfl⟩
        go_wp2_with fail
        go_round
        case rel => exact ⟨i, by omega, rfl, H2⟩
        case measure => simp [intOf]
      · have t1 : decide (dg a i < dg b i) = false := by simp; omega
        have t2 : decide (dg b i < dg a i) = true := by simpa using h
        have HV := Lib.hid (cmpN_gt (val_lt_of_top (i := i) Rb.out.dig (fun j hj => (H.out j (by omega)).symm) h))
        clear h
        go_wp2_with fail
        refine (refAt_any _ _ a i _ Ha.out Ra.out (by omega)).mono ?_
        rintro e w2 ⟨rfl, rfl⟩
        go_wp2_with fail
        refine (refAt_any _ _ b i _ Hb.out Rb.out (by omega)).mono ?_
        rintro e w2 ⟨rfl, rfl⟩
        go_wp2_with fail
        refine (refAt_any _ _ a i _ Ha.out Ra.out (by omega)).mono ?_
        rintro e w2 ⟨rfl, rfl⟩
        go_wp2_with fail
        refine (refAt_any _ _ b i _ Hb.out Rb.out (by omega)).mono ?_
        rintro e w2 ⟨rfl, rfl⟩
        go_wp2_with fail
        go_ret
        exact ⟨ret_int HV.out.symm, rfl⟩
    · have HV : Hid (cmpN (val a) (val b) = 0) := cmpN_eq (val_ext fun j => H.out j (by omega))
      go_wp2_with fail
      go_ret
      exact ⟨ret_int HV.out.symm, rfl⟩

set_option maxHeartbeats 1000000 in
set_option maxRecDepth 100000 in
theorem minus_any (A : Option Addr) (ca : Nat) (a : List Nat) (Bd : Option Addr) (cb : Nat) (b : List Nat) (w : World) {na nb : Nat} (hna : a.length = na) (hnb : b.length = nb) (ha : NR w A ca a) (hb : NR w Bd cb b) (tb : Trm b) (hle : val b ≤ val a) :
    Calls Try.prog 99 #[.slice A na ca, .slice Bd nb cb] w fun e w' => ∃ A' c', e = .returned (.slice A' (digs (val a - val b)).length c') ∧ NF w.heap.size w' A' c' (digs (val a - val b)) ∧ Below w.heap.size w w' := by
  have la : na ≤ 35184372088832 := by have := ha.len; omega
  have lb : nb ≤ 35184372088832 := by have := hb.len; omega
  have Ha := Lib.hid hna
  have Hb := Lib.hid hnb
  have Ra := Lib.hid ha
  have Rb := Lib.hid hb
  have Hle := Lib.hid hle
  clear hna hnb ha hb hle
  go_enter Try.func99, Try.ntmps99
  go_wp2_with (at_make; refine wpList_make_nat _ rfl _ _ rfl na rfl rfl (by omega) (by omega) (by omega) ?_; intro w1 hk1 hb1 hs1)
  have HK1 := Lib.hid hk1
  clear hk1
  go_loopw [6, 13] (fun vc vk wr => ∃ (k c : Nat) (l : List Nat), k ≤ na ∧ vk = .int .i64 k ∧ vc = .int .u32 c ∧ c ≤ 1 ∧ Hid (MinusI a b l k c) ∧ Hid (l.length = na) ∧ Hid (BlkN wr w.heap.size l) ∧ Below w.heap.size w wr) (fun _ vk _ => na - (intOf vk).toNat)
  case atStart => exact ⟨0, 0, List.replicate na 0, by omega, rfl, rfl, by omega, MinusI.start _ _ _ (Dig.replicate _), by simp [Hid], HK1.out, hb1⟩
  case round =>
    obtain ⟨k, c, l, hk, rfl, rfl, hc, HI, HL, HB, hbel⟩ := hrel
    by_cases hkn : k < na
    · obtain ⟨b0, off, rfl, hb0, hc0⟩ := Ra.out.at_ (i := k) (by have := Ha.out; omega)
      have hca : wr.cell? ⟨b0, off + k, none⟩ = some (.int .u32 (dg a k : Nat)) := (hbel.cell (p := ⟨b0, _, none⟩) hb0).trans hc0
      clear hc0
      have hcell := HB.out.cell (i := k) (by have := HL.out; omega)
      have hfr := HB.out.frozen k
      have hdb : (dg b k : Int) ≤ 4294967295 := by have := dg_lt Rb.out.dig k; omega
      obtain ⟨d, c', hd, hc', he, hcall⟩ := Sub32_any (dg a k) (dg b k) c (dg_lt Ra.out.dig k) (dg_lt Rb.out.dig k) hc
      have HS := Lib.hid (HI.out.step (by have := HL.out; omega) hd hc' he)
      have HBS := Lib.hid (HB.out.set k hd)
      have HC := Lib.hid hcall
      clear he hcall
      go_wp2_with fail
      have hbel2 : Below w.heap.size w wr.drew := hbel.drew
      have R2 := Lib.hid (Rb.out.below hbel2)
      have hki : (k : Int) < na := by omega
      have hki0 : (0 : Int) ≤ k := by omega
      go_region_with (first | (go_at_call 76; refine (digit_any Bd cb b k _ Hb.out R2.out (by omega)).mono ?_; rintro e w' ⟨rfl, rfl⟩) | (go_at_call 115; refine (HC.out _ _ _ _ rfl (by first | rfl | exact IntWalk.u32_in _ (by omega)) rfl).mono ?_; rintro e w' ⟨rfl, rfl⟩))
      all_goals
        go_wp2_with fail
        go_roundw
        case rel => exact ⟨k + 1, c', l.set k d, by omega, by go_num, rfl, hc', HS.out, by have := HL.out; simp [Hid, this], HBS.out, (hbel.setCell (Nat.le_refl _) _).drew⟩
        case measure => simp [intOf]; omega
    · obtain rfl : k = na := by omega
      have HF := Lib.hid (MinusI.fin (a := a) (b := b) (l := l) (c := c) Ra.out.dig tb (by have := HI.out; rw [Ha.out]; exact this) (by have := HL.out; have := Ha.out; omega) Hle.out)
      go_wp2_with fail
      have hnf := HB.out.nf (B := w.heap.size) (c := k) (Nat.le_refl _) (by have := HL.out; omega) (by omega) (by have := HL.out; omega)
      refine (trim_any _ _ l _ HL.out hnf.1).mono ?_
      rintro e w2 ⟨rfl, rfl⟩
      go_wp2_with fail
      go_ret
      rw [HF.out.1]
      exact ⟨_, _, rfl, by have := hnf.trim; rwa [HF.out.1] at this, hbel⟩

set_option maxHeartbeats 1000000 in
set_option maxRecDepth 100000 in
theorem refMinus_any (A : Option Addr) (ca : Nat) (a : List Nat) (Bd : Option Addr) (cb : Nat) (b : List Nat) (w : World) {na nb : Nat} (hna : a.length = na) (hnb : b.length = nb) (ha : NR w A ca a) (hb : NR w Bd cb b) (tb : Trm b) (hle : val b ≤ val a) :
    Calls Try.prog 100 #[.slice A na ca, .slice Bd nb cb] w fun e w' => ∃ A' c', e = .returned (.slice A' (digs (val a - val b)).length c') ∧ NF w.heap.size w' A' c' (digs (val a - val b)) ∧ Below w.heap.size w w' := by
  have la : na ≤ 35184372088832 := by have := ha.len; omega
  have lb : nb ≤ 35184372088832 := by have := hb.len; omega
  have Ha := Lib.hid hna
  have Hb := Lib.hid hnb
  have Ra := Lib.hid ha
  have Rb := Lib.hid hb
  have Hle := Lib.hid hle
  clear hna hnb ha hb hle
  go_enter Try.func100, Try.ntmps100
  go_wp2_with fail
  go_loopw [5, 6, 7] (fun vo vc vk wr => ∃ (k c : Nat) (X : Option Addr) (d : Nat) (l : List Nat), k ≤ na ∧ vk = .int .i64 k ∧ vc = .int .u64 c ∧ vo = .slice X k d ∧ c ≤ 1 ∧ Hid (MinusI a b l k c) ∧ Hid (l.length = k) ∧ Hid (ON w.heap.size wr X d l) ∧ Below w.heap.size w wr) (fun _ _ vk _ => na - (intOf vk).toNat)
  case atStart => exact ⟨0, 0, none, 0, [], by omega, rfl, rfl, rfl, by omega, MinusI.start _ _ _ Dig.nil, rfl, ON.nil _ _, Below.refl _ _⟩
  case round =>
    obtain ⟨k, c, X, d, l, hk, rfl, rfl, rfl, hc, HI, HL, HB, hbel⟩ := hrel
    have hsz := hbel.size
    by_cases hkn : k < na
    · have s1 : (dg a k : Int) ≤ 4294967295 := by have := dg_lt Ra.out.dig k; omega
      have s2 : (dg b k : Int) ≤ 4294967295 := by have := dg_lt Rb.out.dig k; omega
      go_wp2_with fail
      refine (refAt_any _ _ a k _ Ha.out (Ra.out.below hbel) (by omega)).mono ?_
      rintro e w2 ⟨rfl, rfl⟩
      go_wp2_with fail
      refine (refAt_any _ _ b k _ Hb.out (Rb.out.below hbel) (by omega)).mono ?_
      rintro e w2 ⟨rfl, rfl⟩
      obtain ⟨x, hx⟩ : ∃ x : Nat, (4294967296 : Int) + dg a k - dg b k - c = x := ⟨4294967296 + dg a k - dg b k - c, by omega⟩
      have hx2 : (x : Int) ≤ 8589934591 := by omega
      have HX := Lib.hid hx
      have HS := Lib.hid (HI.out.snoc HL.out (d := x % 4294967296) (c' := 1 - x / 4294967296) (by omega) (by omega) (by omega))
      have e1 : Hid (((x % 4294967296 : Nat) : Int) = (x : Int) % 4294967296) := by unfold Hid; omega
      have e2 : Hid ((1 : Int) - (x : Int) / 4294967296 = ((1 - x / 4294967296 : Nat) : Int)) := by unfold Hid; omega
      have e3 : 0 ≤ (1 : Int) - (x : Int) / 4294967296 := by omega
      go_wp2_with (at_builtin; go_loud (refine wpList_append_nat _ rfl (.tmp 25) (.tmp 29) rfl w.heap.size X k d l HL.out rfl (HB.out.below ((Below.refl _ _).alloc (Nat.le_refl _) _)) (some ⟨_, 0, none⟩) 1 1 [x % 4294967296] rfl rfl (by have := Src.one wr (Value.int .u32 ((x % 4294967296 : Nat) : Int)) 85; rw [e1.out] at this; simp only [cellsN, List.map_cons, List.map_nil]; rw [e1.out]; exact this) (Dig.one (by omega)) (by omega) (by simp <;> omega) ?_); intro A' c' w' hon hbel2 hg; clear hg)
      go_roundw
      case rel =>
        exact ⟨k + 1, 1 - x / 4294967296, A', c', l ++ [x % 4294967296], by omega, by go_num, int_cong e2.out, rfl, HS.out.2.1, HS.out, by have := HL.out; simp [Hid, this], hon, (hbel.alloc hbel.size _).trans (hbel2.mono (by simp <;> omega))⟩
      case measure => simp [intOf]; omega
    · obtain rfl : k = na := by omega
      have HF := Lib.hid (MinusI.fin (a := a) (b := b) (l := l) (c := c) Ra.out.dig tb (by have := HI.out; rw [Ha.out]; exact this) (by have := HL.out; have := Ha.out; omega) Hle.out)
      go_wp2_with fail
      refine (refTrim_any _ _ l _ HL.out HB.out.nf.1).mono ?_
      rintro e w2 ⟨A', c', rfl, hnf, hb2⟩
      rw [HF.out.1] at hnf ⊢
      go_wp2_with fail
      go_ret
      exact ⟨A', c', rfl, hnf.mono hsz, hbel.trans (hb2.mono hsz)⟩
end Go.Proofs.Ytphaojdfeojpeaa
