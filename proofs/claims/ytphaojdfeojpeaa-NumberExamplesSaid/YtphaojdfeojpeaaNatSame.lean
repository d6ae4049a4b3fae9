/-
  Whether two numbers have the same digits; a number that is spoilt.
-/
import Derived.Test.YtphaojdfeojpeaaNatApi
namespace Go.Proofs.Ytphaojdfeojpeaa
open Go.RowKit
set_option linter.unusedVariables false

theorem dg_ext {a b : List Nat} (hl : a.length = b.length) (h : ∀ j, j < a.length → dg a j = dg b j) : a = b := by
  refine List.ext_getElem hl fun i h1 h2 => ?_
  have := h i h1
  rwa [dg_in h1, dg_in h2] at this
/-- The digits are the same. -/
def sameB (a b : List Nat) : Bool := decide (a = b)
theorem sameB_self (a : List Nat) : sameB a a = true := by simp [sameB]
theorem sameB_yes {a b : List Nat} (h : a = b) : sameB a b = true := by simp [sameB, h]
theorem sameB_no {a b : List Nat} (h : a ≠ b) : sameB a b = false := by simp [sameB, h]

set_option maxHeartbeats 1000000 in
theorem Same_any (A : Option Addr) (ca : Nat) (a : List Nat) (Bd : Option Addr) (cb : Nat) (b : List Nat) (w : World) {na nb : Nat} (hna : a.length = na) (hnb : b.length = nb) (ha : NR w A ca a) (hb : NR w Bd cb b) :
    Calls Try.prog 31 #[.slice A na ca, .slice Bd nb cb] w fun e w' => e = .returned (.bool (sameB a b)) ∧ Below w.heap.size w w' := by
  have la : na ≤ 35184372088832 := by have := ha.len; omega
  have lb : nb ≤ 35184372088832 := by have := hb.len; omega
  have Ha := Lib.hid hna
  have Hb := Lib.hid hnb
  have Ra := Lib.hid ha
  have Rb := Lib.hid hb
  by_cases hne : na = nb
  · subst hne
    clear hna hnb ha hb
    go_enter Try.func31, Try.ntmps31
    go_wp2_with fail
    go_loopw [5] (fun vk wr => ∃ k : Nat, k ≤ na ∧ vk = .int .i64 k ∧ Hid (∀ j, j < k → dg a j = dg b j) ∧ Below w.heap.size w wr) (fun vk _ => na - (intOf vk).toNat)
    case atStart => exact ⟨0, by omega, rfl, fun j hj => absurd hj (Nat.not_lt_zero _), Below.refl _ _⟩
    case round =>
      obtain ⟨k, hk, rfl, HS, hbel⟩ := hrel
      by_cases hkn : k < na
      · obtain ⟨b0, o0, rfl, hb0, hc0⟩ := Ra.out.at_ (i := k) (by have := Ha.out; omega)
        obtain ⟨b1, o1, rfl, hb1, hc1⟩ := Rb.out.at_ (i := k) (by have := Hb.out; omega)
        have hca : wr.cell? ⟨b0, o0 + k, none⟩ = some (.int .u32 (dg a k : Nat)) := (hbel.cell (p := ⟨b0, _, none⟩) hb0).trans hc0
        have hcb : wr.cell? ⟨b1, o1 + k, none⟩ = some (.int .u32 (dg b k : Nat)) := (hbel.cell (p := ⟨b1, _, none⟩) hb1).trans hc1
        have hki : (k : Int) < na := by omega
        have hki0 : (0 : Int) ≤ k := by omega
        clear hc0 hc1
        by_cases he : dg a k = dg b k
        · have h1 : ((dg a k : Int) != dg b k) = false := by simp [he]
          have h1' : (dg a k != dg b k) = false := by simp [he]
          have HE := Lib.hid he
          clear he
          go_wp2_with fail
          go_region
          go_wp2_with fail
          go_roundw
          case rel => exact ⟨k + 1, by omega, by go_num, fun j hj => by
            by_cases e : j = k
            · rw [e]; exact HE.out
            · exact HS.out j (by omega), hbel.drew⟩
          case measure => simp [intOf]; omega
        · have h1 : ((dg a k : Int) != dg b k) = true := by simp; omega
          have h1' : (dg a k != dg b k) = true := by simp [he]
          have HE : Hid (sameB a b = false) := sameB_no fun e => he (by rw [e])
          clear he
          go_wp2_with fail
          go_region
          go_wp2_with fail
          go_ret
          exact ⟨ret_bool HE.out.symm, hbel.drew⟩
      · obtain rfl : k = na := by omega
        have HE : Hid (sameB a b = true) := sameB_yes (dg_ext (by have := Ha.out; have := Hb.out; omega) fun j hj => HS.out j (by have := Ha.out; omega))
        go_wp2_with fail
        go_ret
        exact ⟨ret_bool HE.out.symm, hbel⟩
  · have h1 : ((na : Int) != nb) = true := by simp; omega
    have h1' : (na != nb) = true := by simp [hne]
    have HE : Hid (sameB a b = false) := sameB_no fun e => hne (by rw [← hna, ← hnb, e])
    clear hna hnb ha hb hne
    go_enter Try.func31, Try.ntmps31
    go_wp2_with fail
    go_ret
    exact ⟨ret_bool HE.out.symm, Below.refl _ _⟩

theorem NF.set {B : Nat} {w : World} {c b off : Nat} {l : List Nat} (h : NF B w (some ⟨b, off, none⟩) c l) {i x : Nat} (hi : i < l.length) (hx : x < 4294967296) : NF B (w.setCell ⟨b, off + i, none⟩ (.int .u32 (x : Nat))) (some ⟨b, off, none⟩) c (l.set i x) := by
  have hne : l ≠ [] := fun e => by rw [e] at hi; simp at hi
  obtain ⟨b1, o1, e1, hb, hc⟩ := h.1.2.2.2 hne
  obtain ⟨b2, o2, e2, hB, hf⟩ := h.2 hne
  injection e1 with e1
  injection e1 with e1 e1'
  injection e2 with e2
  injection e2 with e2 e2'
  subst e1 e1' e2 e2'
  refine ⟨⟨h.1.1.set i hx, by rw [List.length_set]; exact h.1.2.1, by rw [List.length_set]; exact h.1.2.2.1, fun _ => ⟨b, off, rfl, by simpa using hb, fun j hj => ?_⟩⟩, fun _ => ⟨b, off, rfl, hB, fun j hj => ?_⟩⟩
  · rw [List.length_set] at hj
    by_cases e : i = j
    · subst e
      rw [dg_set_same hi]
      exact World.cell?_setCell_same' _ _ _ (by rw [hc i hi]; rfl)
    · rw [dg_set_other e]
      rw [World.cell?_setCell_other (h := by intro e2; injection e2 with _ e3; omega)]
      exact hc j hj
  · rw [List.length_set] at hj
    exact (World.frozen?_setCell ..).trans (hf j hj)

/-- Only the block of this number has turned. -/
def OnlyAt (A : Option Addr) (l : List Nat) (w w' : World) : Prop := (l = [] → w' = w) ∧ ∀ g o, A = some ⟨g, o, none⟩ → Only g w w'
theorem NF.onlyAt {B : Nat} {w w' : World} {A : Option Addr} {l : List Nat} {R : Option Addr} {c : Nat} {m : List Nat} (h : NF B w R c m) (ap : Apart A l R m) (k : OnlyAt A l w w') (hl : l ≠ [] → ∃ g o, A = some ⟨g, o, none⟩) : NF B w' R c m := by
  by_cases h0 : l = []
  · rw [k.1 h0]; exact h
  · obtain ⟨g, o, e⟩ := hl h0
    have ho := k.2 g o e
    refine ⟨h.1.only (fun hm b off e2 => (ap h0 hm g o b off e e2).symm) ho, fun hm => ?_⟩
    obtain ⟨b, off, e2, hB, hf⟩ := h.2 hm
    exact ⟨b, off, e2, hB, fun i hi => (World.frozen?_of_block (a := ⟨b, off + i, none⟩) (ho.block b (ap h0 hm g o b off e e2).symm)).trans (hf i hi)⟩
theorem NF.some {B : Nat} {w : World} {A : Option Addr} {c : Nat} {l : List Nat} (h : NF B w A c l) : l ≠ [] → ∃ g o, A = some ⟨g, o, none⟩ := fun hn => by
  obtain ⟨b, off, e, _⟩ := h.2 hn
  exact ⟨b, off, e⟩

set_option maxHeartbeats 1000000 in
theorem spoil_any (B : Nat) (A : Option Addr) (ca : Nat) (a : List Nat) (w : World) {na : Nat} (hna : a.length = na) (ha : NF B w A ca a) :
    Calls Try.prog 44 #[.slice A na ca] w fun e w' => (∃ v, e = .returned v) ∧ Below B w w' ∧ OnlyAt A a w w' := by
  have la : na ≤ 35184372088832 := by have := ha.1.len; omega
  have Ha := Lib.hid hna
  have Ra := Lib.hid ha
  clear hna ha
  go_enter Try.func44, Try.ntmps44
  go_wp2_with fail
  go_loopw [2] (fun vk wr => ∃ (k : Nat) (l : List Nat), k ≤ na ∧ vk = .int .i64 k ∧ Hid (l.length = na) ∧ Hid (NF B wr A ca l) ∧ Below B w wr ∧ Hid ((k = 0 → wr = w) ∧ ∀ g o, A = some ⟨g, o, none⟩ → Only g w wr)) (fun vk _ => na - (intOf vk).toNat)
  case atStart => exact ⟨0, a, by omega, rfl, Ha.out, Ra.out, Below.refl _ _, fun _ => rfl, fun g o _ => Only.refl g w⟩
  case round =>
    obtain ⟨k, l, hk, rfl, HL, HF, hbel, HO⟩ := hrel
    by_cases hkn : k < na
    · have hkl : k < l.length := by have := HL.out; omega
      obtain ⟨b0, o0, eA, hb0, hc0⟩ := HF.out.1.at_ hkl
      obtain ⟨b1, o1, eB, hB, hf⟩ := HF.out.2 (fun e => by rw [e] at hkl; simp at hkl)
      have hfr := hf k hkl
      rw [eA] at eB
      injection eB with eB
      injection eB with eB eB'
      subst eB eB' eA
      have hd := dg_lt HF.out.1.dig k
      have HX : Hid (bits BinOp.xor IntKind.u32 (dg l k : Int) 1 = ((dg l k ^^^ 1 : Nat) : Int)) := u32_xor_nat (dg l k) 1 hd (by omega)
      have HN := Lib.hid (HF.out.set hkl (lt32_xor hd (show 1 < 4294967296 by omega)))
      rw [← HX.out] at HN
      have hdi : (dg l k : Int) ≤ 4294967295 := by omega
      clear hf hd
      go_wp2_with fail
      go_roundw
      case rel => exact ⟨k + 1, _, by omega, by go_num, by have := HL.out; simp [Hid, this], HN.out, hbel.setCell (p := ⟨b0, o0 + k, none⟩) hB _, fun h => by omega, fun g o e => by
        injection e with e
        injection e with e1 e2
        subst e1
        exact (HO.out.2 _ _ rfl).setCell _ _⟩
      case measure => simp [intOf]; omega
    · obtain rfl : k = na := by omega
      go_wp2_with fail
      go_end0
      exact ⟨⟨_, rfl⟩, hbel, fun h => HO.out.1 (by rw [← Ha.out, h]; rfl), HO.out.2⟩
end Go.Proofs.Ytphaojdfeojpeaa
