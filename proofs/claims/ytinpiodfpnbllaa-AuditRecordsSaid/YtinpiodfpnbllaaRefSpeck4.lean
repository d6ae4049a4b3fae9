/-
  The reference's Encrypt, Derive, Number.
-/
import Derived.Test.YtinpiodfpnbllaaRefSpeck3
import Derived.Deep.RegionHeld3
namespace Go.Proofs.Ytinpiodfpnbllaa
open Go.RowKit
set_option linter.unusedVariables false
attribute [local go_sem] run_storeCells_key

theorem ksL_at (k : W2) (i : Nat) (h : i < 32) : (cellsU (ksL k 31))[i]? = some (.int .u64 ((ksS k i).2.toNat : Int)) := by
  simp [cellsU, ksL, List.getElem?_range h]
set_option maxHeartbeats 1000000 in
set_option maxRecDepth 100000 in
theorem refEncrypt_any (k b : List UInt8) (w : World) (hk : k.length = 16) (hb : b.length = 16) : Calls Try.prog 56 #[.agg (cellsB k).toArray, .agg (cellsB b).toArray] w fun e w' => e = .returned (.agg (cellsB (encS k b)).toArray) ∧ Below w.heap.size w w' := by
  have HK := Lib.hid hk
  have HB := Lib.hid hb
  have hkl : (cellsB k).length = 16 := by rw [cellsB_length, hk]
  have hbl : (cellsB b).length = 16 := by rw [cellsB_length, hb]
  have HZ := Lib.hid zero16
  clear hk hb
  go_enter Try.func56, Try.ntmps56
  go_wp2_with (first
    | (go_at_call 115; rw [fold16B b HB.out, HZ.out]; refine (refWords_key b _ HB.out).mono ?_; rintro e w1 ⟨rfl, hb1⟩; have hck : ∀ j, w1.cell? ⟨w.heap.size, j, none⟩ = (cellsB k).toArray[j]? := fun j => ((blk_a0 w (cellsB k).toArray 23 _ _).below' hb1).cell j)
    | (go_at_call 116; rw [fold16B k HK.out]; refine (refRoundKeys_any k _ HK.out).mono ?_; rintro e w2 ⟨A, c, rfl, hR, hb2⟩; have HR := Lib.hid hR; clear hR))
  have HB0 : Hid (Blk w2 (w.heap.size + 1 + 1) 23 (cellsB zeroK).toArray) := (((blk_a2 w _ _ (cellsB zeroK).toArray 23).below' hb1)).below' hb2
  have hb02 : Below w.heap.size w w2 := (alloc3_bel w _ _ _).trans ((hb1.trans (hb2.mono hb1.size)).mono (alloc3_bel w _ _ _).size)
  have hs2 : w.heap.size + 1 + 1 < w2.heap.size := HB0.out.lt
  clear hck
  go_loopw [5, 6, 8] (fun vx vy vi wr => ∃ i : Nat, i ≤ 32 ∧ vi = .int .i64 (i : Int) ∧ vx = .int .u64 ((enW (wds k) (wds b) i).1.toNat : Int) ∧ vy = .int .u64 ((enW (wds k) (wds b) i).2.toNat : Int) ∧ Below w2.heap.size w2 wr) (fun _ _ vi _ => 32 - (intOf vi).toNat)
  case atStart => exact ⟨0, by omega, rfl, rfl, rfl, Below.refl _ _⟩
  case round =>
    obtain ⟨i, hi, rfl, rfl, rfl, hbel⟩ := hrel
    by_cases hlt : i < 32
    · have hii : (i : Int) < 32 := by omega
      have HES : Hid (enW (wds k) (wds b) (i + 1) = rnd (ksS (wds k) i).2 (enW (wds k) (wds b) i)) := rfl
      obtain ⟨g, off, rfl, hg, v, hv, hc⟩ := Rd.at1 (HR.out.below hbel) hlt
      rw [ksL_at _ _ hlt] at hv
      injection hv with hv
      subst hv
      obtain ⟨⟨x, y⟩, hp⟩ : ∃ p, enW (wds k) (wds b) i = p := ⟨_, rfl⟩
      obtain ⟨u, hu⟩ : ∃ u, (ksS (wds k) i).2 = u := ⟨_, rfl⟩
      rw [hp, hu] at HES
      rw [hp]
      rw [hu] at hc
      have hx := u64_bd x
      have hy := u64_bd y
      have E1 := Lib.hid (rnd_fstk u x y)
      have E1m := Lib.hid (rnd_fstkm u x y)
      have E2 := Lib.hid (rnd_snd u x y)
      clear hp hu
      go_wp2_with fail
      go_quiet ((go_at_call 117; exact quiet_n (refRotr_8 x _)))
      first | rw [E1.out] | rw [E1m.out] | skip
      go_wp2_with (go_at_call 118; refine (refRotl_3 y _).mono ?_; rintro e w3 ⟨rfl, n3, rfl⟩; first | rw [E1.out] | rw [E1m.out] | skip)
      rw [E2.out]
      go_roundw
      case rel => exact ⟨i + 1, by omega, by go_num, by rw [HES.out], by rw [HES.out], by first | exact below_drewN hbel _ | exact below_drewN (below_drewN hbel _) _⟩
      case measure => simp [intOf]; omega
    · obtain rfl : i = 32 := by omega
      have HE : Hid (encS k b = blk (enW (wds k) (wds b) 32)) := rfl
      obtain ⟨⟨x, y⟩, hp⟩ : ∃ p, enW (wds k) (wds b) 32 = p := ⟨_, rfl⟩
      rw [hp] at HE ⊢
      have hall := all16 (blk (x, y))
      have hl : (cellsB (blk (x, y))).length = 16 := rfl
      clear hp
      go_wp2_with (go_at_call 119; refine (refBlock2_any x y _).mono ?_; rintro e w5 ⟨rfl, hb5⟩; have hB := ((HB0.out.below' hbel).below' hb5); have hr5 : (rowAt w5 (w.heap.size + 1 + 1)).size = 16 := by { rw [hB.row]; rfl }; have hf5 := hB.free; have HB5 := Lib.hid hB; clear hB)
      have hbF : Below w.heap.size w w5 := hb02.trans ((hbel.trans (hb5.mono hbel.size)).mono hb02.size)
      exact bodyPost_ret (results_cell_row rfl _ _ (w.heap.size + 1 + 1) _ _ (0, 0) _ rfl (HB5.out.setRow (cellsB (blk (x, y))).toArray) under_key rfl (cellsB_size _ rfl)) rfl ⟨by rw [HE.out], below_setRow hbF (by omega) _⟩
end Go.Proofs.Ytinpiodfpnbllaa
