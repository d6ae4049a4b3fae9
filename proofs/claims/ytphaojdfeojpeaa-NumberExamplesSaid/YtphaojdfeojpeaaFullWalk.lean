/-
  The number 2^512 - 1 of the examples.
-/
import Derived.Test.YtphaojdfeojpeaaExamplesLaw
namespace Go.Proofs.Ytphaojdfeojpeaa
open Go.RowKit
set_option linter.unusedVariables false

set_option maxHeartbeats 1000000 in
set_option maxRecDepth 100000 in
theorem full_any (w : World) :
    Calls Try.prog 66 #[] w fun e w' => ∃ A c, e = .returned (.slice A 16 c) ∧ NF w.heap.size w' A c fullL ∧ Below w.heap.size w w' := by
  go_enter Try.func66, Try.ntmps66
  go_wp2_with (at_make; refine wpList_make_nat _ rfl _ _ rfl 16 rfl rfl (by omega) (by omega) (by omega) ?_; intro w1 hk1 hb1 hs1)
  have HK1 := Lib.hid hk1
  clear hk1
  go_loopw [2] (fun vk wr => ∃ (k : Nat) (l : List Nat), k ≤ 16 ∧ vk = .int .i64 k ∧ Hid (l.length = 16) ∧ Hid (NF w.heap.size wr (some ⟨w.heap.size, 0, none⟩) 16 l) ∧ Below w.heap.size w wr ∧ Hid (∀ j, j < k → dg l j = 4294967295)) (fun vk _ => 16 - (intOf vk).toNat)
  case atStart =>
    exact ⟨0, List.replicate 16 0, by omega, rfl, rfl, HK1.out.nf (Nat.le_refl _) (by simp) (by omega) (by simp), hb1, fun j hj => by omega⟩
  case round =>
    obtain ⟨k, l, hk, rfl, HL, HF, hbel, HO⟩ := hrel
    by_cases hkn : k < 16
    · have hkl : k < l.length := by have := HL.out; omega
      obtain ⟨b0, o0, eA, hb0, hc0⟩ := HF.out.1.at_ hkl
      obtain ⟨b1, o1, eB, hB, hf⟩ := HF.out.2 (fun e => by rw [e] at hkl; simp at hkl)
      have hfr := hf k hkl
      rw [eA] at eB
      injection eB with eB
      injection eB with eB eB'
      injection eA with eA
      injection eA with eA eA'
      subst eB eB' eA eA'
      have HN := Lib.hid (HF.out.set hkl (show 4294967295 < 4294967296 by omega))
      simp only [Nat.zero_add] at hc0 hfr HN
      clear hf
      go_wp2_with fail
      go_roundw
      case rel => exact ⟨k + 1, l.set k 4294967295, by omega, by go_num, by have := HL.out; simp [Hid, this], HN.out, hbel.setCell (p := ⟨w.heap.size, k, none⟩) (Nat.le_refl _) _, fun j hj => by
        by_cases e : j = k
        · subst e; exact dg_set_same hkl
        · rw [dg_set_other (Ne.symm e)]; exact HO.out j (by omega)⟩
      case measure => simp [intOf]; omega
    · obtain rfl : k = 16 := by omega
      go_wp2_with fail
      have e : l = fullL := dg_ext (by rw [HL.out]; rfl) (fun j hj => by
        have hj : j < 16 := by have := HL.out; omega
        rw [HO.out j hj]
        exact ((show ∀ j, j < 16 → dg fullL j = 4294967295 by decide +kernel) j hj).symm)
      go_ret
      exact ⟨_, _, rfl, e ▸ HF.out, hbel⟩
end Go.Proofs.Ytphaojdfeojpeaa
