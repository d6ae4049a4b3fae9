/-
  subtract and giveBack: on a part of a block.
-/
import Derived.Test.YtphaojdfeojpeaaPartWalks2
namespace Go.Proofs.Ytphaojdfeojpeaa
open Go.RowKit
set_option linter.unusedVariables false

/-- Nothing but block g has turned. -/
structure Only (g : Nat) (w w' : World) : Prop where
  os : w'.os = w.os
  tape : w'.tape = w.tape
  output : w'.output = w.output
  size : w'.heap.size = w.heap.size
  block : ∀ k, k ≠ g → w'.heap[k]? = w.heap[k]?
theorem Only.refl (g : Nat) (w : World) : Only g w w := ⟨rfl, rfl, rfl, rfl, fun _ _ => rfl⟩
theorem Only.trans {g : Nat} {a b c : World} (h : Only g a b) (k : Only g b c) : Only g a c :=
  ⟨k.os.trans h.os, k.tape.trans h.tape, k.output.trans h.output, k.size.trans h.size, fun i hi => (k.block i hi).trans (h.block i hi)⟩
theorem Only.setCell {g : Nat} {a w : World} (h : Only g a w) (i : Nat) (u : Value) : Only g a (w.setCell ⟨g, i, none⟩ u) :=
  h.trans ⟨rfl, rfl, rfl, by simp [World.setCell], fun k hk => Below.heap_setCell w ⟨g, i, none⟩ u k hk⟩
theorem Only.drew {g : Nat} {a w : World} (h : Only g a w) : Only g a w.drew := h.trans ⟨rfl, rfl, rfl, rfl, fun _ _ => rfl⟩
theorem Only.drewN {g : Nat} {a w : World} (h : Only g a w) (n : Nat) : Only g a (w.drewN n) := h.trans ⟨rfl, rfl, rfl, rfl, fun _ _ => rfl⟩
theorem Only.below {g B : Nat} {a w : World} (h : Only g a w) (hg : B ≤ g) : Below B a w := ⟨h.os, h.tape, h.output, Nat.le_of_eq h.size.symm, fun k hk => h.block k (by omega)⟩
/-- A number that does not lie in block g. -/
def Far (g : Nat) (A : Option Addr) (l : List Nat) : Prop := l ≠ [] → ∀ b off, A = some ⟨b, off, none⟩ → b ≠ g
theorem NR.only {g : Nat} {a w : World} {A : Option Addr} {c : Nat} {l : List Nat} (h : NR a A c l) (hf : Far g A l) (ho : Only g a w) : NR w A c l :=
  ⟨h.1, h.2.1, h.2.2.1, fun hn => by
    obtain ⟨b, off, e, hb, hc⟩ := h.2.2.2 hn
    exact ⟨b, off, e, by rw [ho.size]; exact hb, fun i hi => (World.cell?_of_block (a := ⟨b, off + i, none⟩) (ho.block b (hf hn b off e))).trans (hc i hi)⟩⟩

set_option maxHeartbeats 2000000 in
set_option maxRecDepth 100000 in
theorem subtract_any (g j m c : Nat) (u : List Nat) (V : Option Addr) (cv : Nat) (v : List Nat) (x : Nat) (w : World) {nv : Nat} (hu : BlkN w g u) (hjm : j + m ≤ u.length) (hlen : u.length ≤ 70368744177664) (hcm : m ≤ c) (hnv : v.length = nv) (hv : NR w V cv v) (hf : Far g V v) (hvm : nv < m) (hx : x < 4294967296) :
    Calls Try.prog 110 #[.slice (some ⟨g, j, none⟩) m c, .slice V nv cv, .int .u64 x] w fun e w' => ∃ u' b, e = .returned (.bool (b != 0)) ∧ BlkN w' g u' ∧ SubI u v u' j x m 0 b ∧ Only g w w' := by
  have lv : nv ≤ 35184372088832 := by have := hv.len; omega
  have Hv := Lib.hid hnv
  have Rv := Lib.hid hv
  have HF := Lib.hid hf
  have HU := Lib.hid hu
  have hx2 : (x : Int) ≤ 4294967295 := by omega
  have HXX := Lib.hid hx
  clear hnv hv hf hu hx
  go_enter Try.func110, Try.ntmps110
  go_wp2_with fail
  go_loopw [7, 8, 13] (fun vc vb vk wr => ∃ (k c b : Nat) (l : List Nat), k ≤ m ∧ vk = .int .i64 k ∧ vc = .int .u64 c ∧ vb = .int .u32 b ∧ Hid (SubI u v l j x k c b) ∧ Hid (BlkN wr g l) ∧ Only g w wr) (fun _ _ vk _ => m - (intOf vk).toNat)
  case atStart => exact ⟨0, 0, 0, u, by omega, rfl, rfl, rfl, SubI.start HU.out.2 _ _, HU.out, Only.refl _ _⟩
  case round =>
    obtain ⟨k, c0, b, l, hk, rfl, rfl, rfl, HI, HB, hon⟩ := hrel
    have hc4 : (c0 : Int) ≤ 4294967295 := by have := HI.out.2.2.1; omega
    have hb1 : (b : Int) ≤ 1 := by have := HI.out.2.2.2.1; omega
    have HL : Hid (l.length = u.length) := HI.out.2.1
    by_cases hkn : k < m
    · have hcell := HB.out.cell (i := j + k) (by have := HL.out; omega)
      have hfr := HB.out.frozen (j + k)
      have hdv : (dg v k : Int) ≤ 4294967295 := by have := dg_lt Rv.out.dig k; omega
      obtain ⟨q1, q2⟩ := HI.out.bound Rv.out.dig HXX.out
      have q4 : (x : Int) * dg v k ≤ 18446744065119617025 := by rw [← Int.natCast_mul]; omega
      have q5 : 0 ≤ (x : Int) * dg v k := by rw [← Int.natCast_mul]; omega
      have q6 : (x : Int) * dg v k + c0 ≤ 18446744073709551615 := by rw [← Int.natCast_mul]; omega
      have HQ : Hid ((x : Int) * dg v k + c0 = ((x * dg v k + c0 : Nat) : Int)) := by unfold Hid; rw [← Int.natCast_mul]; omega
      have HQ3 := Lib.hid q1
      have hlk : dg l (j + k) = dg u (j + k) := HI.out.2.2.2.2.2.1 _ (by omega)
      obtain ⟨d, b', hd, hb', he, hcall⟩ := Sub32_any (dg u (j + k)) ((x * dg v k + c0) % 4294967296) b (dg_lt HU.out.2 _) (by omega) (by omega)
      have HS := Lib.hid (HI.out.step Rv.out.dig HXX.out (by omega) hd hb' he)
      have HBS := Lib.hid (HB.out.set (j + k) hd)
      have HC := Lib.hid hcall
      rw [hlk] at hcell
      clear q1 q2 he hcall hlk
      go_wp2_with fail
      refine (digit_any _ _ v k _ Hv.out (Rv.out.only HF.out hon) (by omega)).mono ?_
      rintro e w2 ⟨rfl, rfl⟩
      go_wp2_with fail
      refine (halves_any _ _ HQ.out (by have := HQ3.out; omega)).mono ?_
      rintro e w2 ⟨rfl, rfl⟩
      go_wp2_with fail
      refine (HC.out _ _ _ _ rfl rfl rfl).mono ?_
      rintro e w2 ⟨rfl, rfl⟩
      go_wp2_with fail
      go_roundw
      case rel => exact ⟨k + 1, _, b', _, by omega, by go_num, rfl, rfl, HS.out, HBS.out, hon.setCell _ _⟩
      case measure => simp [intOf]; omega
    · obtain rfl : k = m := by omega
      have hc0 : c0 = 0 := HI.out.2.2.2.2.1 (by have := Hv.out; omega)
      subst hc0
      go_wp2_with fail
      go_ret
      exact ⟨l, b, ret_bool (by rcases (by omega : b = 0 ∨ b = 1) with rfl | rfl <;> rfl), HB.out, HI.out, hon⟩

set_option maxHeartbeats 2000000 in
set_option maxRecDepth 100000 in
theorem giveBack_any (g j m c : Nat) (u : List Nat) (V : Option Addr) (cv : Nat) (v : List Nat) (w : World) {nv : Nat} (hu : BlkN w g u) (hjm : j + m ≤ u.length) (hlen : u.length ≤ 70368744177664) (hcm : m ≤ c) (hnv : v.length = nv) (hv : NR w V cv v) (hf : Far g V v) (hvm : nv < m) :
    Calls Try.prog 111 #[.slice (some ⟨g, j, none⟩) m c, .slice V nv cv] w fun e w' => ∃ u' b x, e = .returned x ∧ BlkN w' g u' ∧ GiveI u v u' j m b ∧ Only g w w' := by
  have lv : nv ≤ 35184372088832 := by have := hv.len; omega
  have Hv := Lib.hid hnv
  have Rv := Lib.hid hv
  have HF := Lib.hid hf
  have HU := Lib.hid hu
  clear hnv hv hf hu
  go_enter Try.func111, Try.ntmps111
  go_wp2_with fail
  go_loopw [4, 8] (fun vc vk wr => ∃ (k c : Nat) (l : List Nat), k ≤ m ∧ vk = .int .i64 k ∧ vc = .int .u32 c ∧ Hid (GiveI u v l j k c) ∧ Hid (BlkN wr g l) ∧ Only g w wr) (fun _ vk _ => m - (intOf vk).toNat)
  case atStart => exact ⟨0, 0, u, by omega, rfl, rfl, GiveI.start HU.out.2 _, HU.out, Only.refl _ _⟩
  case round =>
    obtain ⟨k, c0, l, hk, rfl, rfl, HI, HB, hon⟩ := hrel
    have hc1 : c0 ≤ 1 := HI.out.2.2.1
    have hc4 : (c0 : Int) ≤ 1 := by omega
    have HL : Hid (l.length = u.length) := HI.out.2.1
    by_cases hkn : k < m
    · have hcell := HB.out.cell (i := j + k) (by have := HL.out; omega)
      have hfr := HB.out.frozen (j + k)
      have hdv : (dg v k : Int) ≤ 4294967295 := by have := dg_lt Rv.out.dig k; omega
      have hlk : dg l (j + k) = dg u (j + k) := HI.out.2.2.2.1 _ (by omega)
      have HS := Lib.hid (HI.out.step HU.out.2 Rv.out.dig (by omega))
      have HBS := Lib.hid (HB.out.set (j + k) (x := (dg u (j + k) + dg v k + c0) % 4294967296) (by omega))
      have HDU := Lib.hid (dg_lt HU.out.2 (j + k))
      have HDV := Lib.hid (dg_lt Rv.out.dig k)
      rw [hlk] at hcell
      clear hlk
      go_wp2_with fail
      have hon2 : Only g w wr.drew := hon.drew
      have R2 := Lib.hid (Rv.out.only HF.out hon2)
      have hki : (k : Int) < m := by omega
      have hki0 : (0 : Int) ≤ k := by omega
      go_region_with (first | (go_at_call 76; refine (digit_any V cv v k _ Hv.out R2.out (by omega)).mono ?_; rintro e w' ⟨rfl, rfl⟩) | (go_at_call 120; refine (Add32_any (dg u (j + k)) (dg v k) c0 _ HDU.out HDV.out hc1 rfl (by first | rfl | exact IntWalk.u32_in _ (by omega)) rfl).mono ?_; rintro e w' ⟨rfl, rfl⟩))
      all_goals
        go_wp2_with fail
        go_roundw
        case rel => exact ⟨k + 1, _, _, by omega, by go_num, rfl, HS.out, HBS.out, (hon.setCell _ _).drew⟩
        case measure => simp [intOf]; omega
    · obtain rfl : k = m := by omega
      go_wp2_with fail
      go_end0
      exact ⟨l, c0, _, rfl, HB.out, HI.out, hon⟩
end Go.Proofs.Ytphaojdfeojpeaa
