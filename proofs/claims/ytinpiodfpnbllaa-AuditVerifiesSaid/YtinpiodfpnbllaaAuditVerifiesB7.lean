/-
  Lemmas and contracts, joined: part 7.
-/
import Derived.Test.YtinpiodfpnbllaaAuditVerifiesB6
set_option linter.unusedSimpArgs false
set_option linter.unusedVariables false
set_option linter.unnecessarySimpa false
/- The two roots that a growth gives: the program's, with its recursion. -/
namespace Go.Proofs.Ytinpiodfpnbllaa
open Go.RowKit
set_option linter.unusedVariables false
set_option linter.unusedSimpArgs false
attribute [local go_sem] run_storeCells_key run_storeCells_new

set_option maxHeartbeats 8000000 in
set_option maxRecDepth 100000 in
theorem grow_any (w0 : World) (g : Nat) (before : List UInt8) (hl : before.length = 16) (n : Nat) : ∀ (m : Nat) (wh : Bool) (path : List (List UInt8)) (A : Option Addr) (c : Nat) (ts : List (List UInt8)) (w : World), 1 ≤ m → m ≤ n → n ≤ 1000 → path.length = partsS n m wh → KR w0 A c path → Below w0.heap.size w0 w → TX w0.heap.size w g ts → ts.length + 2 * n ≤ 50000 →
    Calls Try.prog 82 #[.pointer (some ⟨g, 0, none⟩), .agg (cellsB before).toArray, .int .i64 (n : Int), .int .i64 (m : Int), .slice A path.length c] w (GrowEnd w0 g ts (growS before n m path) w) := by
  induction n using Nat.strongRecOn with
  | _ n ih =>
    intro m wh path A c ts w h1 hm hbig hp h hw ht hts
    by_cases hne : m = n
    · subst hne
      exact grow_end w0 g m before hl path A c ts w hbig (by rw [hp, partsS_end]; split <;> omega) h hw ht
    have h2 : 2 ≤ n := by omega
    have hs1 := splitS_pos n
    have hs2 := splitS_lt h2
    have hni : (2 : Int) ≤ (n : Int) := by omega
    have hnb : (n : Int) ≤ 1000 := by omega
    have hmb : (m : Int) ≤ (n : Int) := by omega
    have hnei : ¬ (m : Int) = (n : Int) := by omega
    have hws : w0.heap.size ≤ w.heap.size := hw.size
    have hcl := Rd.le h.1
    have hcap := Rd.len h.1
    have HSP : Hid (∀ W, Calls Try.prog 72 #[.int .i64 (n : Int)] W fun e w' => e = .returned (.int .i64 ((splitS n : Nat) : Int)) ∧ W = w') := fun W => split_any n W h2 (by omega)
    have b0 := alloc3_bel w (.cells (cellsB before).toArray 23) (.cells (cellsB zeroK).toArray 23) (.cells (cellsB zeroK).toArray 23)
    have B0 := Lib.hid (blk_a0 w (cellsB before).toArray 23 (.cells (cellsB zeroK).toArray 23) (.cells (cellsB zeroK).toArray 23))
    have B1 := Lib.hid (blk_a1 w (.cells (cellsB before).toArray 23) (cellsB zeroK).toArray 23 (.cells (cellsB zeroK).toArray 23))
    have B2 := Lib.hid (blk_a2 w (.cells (cellsB before).toArray 23) (.cells (cellsB zeroK).toArray 23) (cellsB zeroK).toArray 23)
    have HTX := Lib.hid (ht.below b0)
    have HW := Lib.hid hw
    have HZ := Lib.hid zero16
    have HK := Lib.hid hl
    by_cases hk : m ≤ splitS n
    · skip
      have hki : (m : Int) ≤ ((splitS n : Nat) : Int) := by omega
      obtain ⟨l, hl1⟩ : ∃ l, path.length = l + 1 := ⟨path.length - 1, by rw [hp, partsS_low wh h2 hne hk]; omega⟩
      rw [growS_low _ _ h2 hne hk]
      have hle := growS_le before (splitS n) m (initK path)
      obtain ⟨hpl, hql⟩ := growS_length hl (splitS n) m (path := initK path) (fun k hk => h.2 k (initK_mem hk))
      have HC : Hid (∀ W, Below w0.heap.size w0 W → TX w0.heap.size W g ts → Calls Try.prog 82 #[.pointer (some ⟨g, 0, none⟩), .agg (cellsB before).toArray, .int .i64 ((splitS n : Nat) : Int), .int .i64 (m : Int), .slice A l c] W (GrowEnd w0 g ts (growS before (splitS n) m (initK path)) W)) := fun W hW hT => by
        have hlen : l = (initK path).length := by rw [initK_length, hl1]; omega
        rw [hlen]
        exact ih (splitS n) hs2 m wh (initK path) A c ts W h1 hk (by omega) (by rw [initK_length, hp, partsS_low wh h2 hne hk]; omega) h.init hW hT (by omega)
      obtain ⟨b, off, rfl, hb, hr, hhl⟩ := h.lastAt hl1
      have HR : Hid (∀ W, Below w0.heap.size w0 W → W.rangeAt b (off + l * 16) (cellsB (lastK path))) := fun W hW => range_below hr hW
      have HH := Lib.hid hhl
      have hli : (l : Int) ≤ 140737488351232 := by omega
      have hlc : l ≤ c := by omega
      have hllt : (l : Int) < (l : Int) + 1 := by omega
      have hsl := fun W => slice_keys_to W (some ⟨b, off, none⟩) (l + 1) c l hlc
      generalize growS before (splitS n) m (initK path) = r at HC hle hpl hql ⊢
      obtain ⟨p, q, x⟩ := r
      unfold GrowEnd at HC ⊢
      dsimp only at HC hle hpl hql ⊢
      generalize lastK path = h0 at HR HH ⊢
      rw [hl1]
      generalize splitS n = k at *
      have HPL := Lib.hid hpl
      have HQL := Lib.hid hql
      have HNT1 : Hid (∀ W, Calls Try.prog 68 #[.agg (cellsB q).toArray, .agg (cellsB h0).toArray] W fun e w' => (∃ A c, e = .returned (.slice A 33 c) ∧ OB W.heap.size w' A c (nodeT q h0)) ∧ Below W.heap.size W w') := fun W => nodeText_any q h0 W (by first | exact HPL.out | exact HQL.out | exact HH.out) (by first | exact HH.out | exact HPL.out | exact HQL.out)
      have HNL1 : Hid ((nodeT q h0).length = 33) := by unfold Hid nodeT; simp [HPL.out, HQL.out, HH.out]
      generalize nodeT q h0 = t1 at HNT1 HNL1 ⊢
      have HTK1 : Hid (∀ X d W, TX w0.heap.size W g (ts ++ x) → OB w0.heap.size W X d t1 → Calls Try.prog 65 #[.pointer (some ⟨g, 0, none⟩), .slice X 33 d] W fun e w' => e = .returned (.agg (cellsB (digS t1)).toArray) ∧ TX w0.heap.size w' g ((ts ++ x) ++ [t1]) ∧ KeepT W w' ∧ Below w0.heap.size W w') := fun X d W h1 h2 => take_any _ t1 X d g W HNL1.out h1 h2 (by omega) (by simp only [List.length_append, List.length_cons, List.length_nil]; omega)
      have HDL1 : Hid ((digS t1).length = 16) := digS_length _
      generalize digS t1 = d1 at HDL1 HTK1 ⊢
      have HBW : Hid (b < w0.heap.size) := hb
      clear ih h hp hl1 hw ht hts hle hr hhl hb hl hpl hql
      go_enter Try.func82, Try.ntmps82
      go_wp2_with (go_at_call 72; rw [HZ.out]; refine (HSP.out _).mono ?_; rintro e w1 ⟨rfl, rfl⟩)
      obtain ⟨W0, hW0⟩ : ∃ W : World, W = ((w.alloc (.cells (cellsB before).toArray 23)).alloc (.cells (cellsB zeroK).toArray 23)).alloc (.cells (cellsB zeroK).toArray 23) := ⟨_, rfl⟩
      have hzz : W0.heap.size = w.heap.size + 1 + 1 + 1 := by rw [hW0]; simp
      rw [← hW0] at b0 B0 B1 B2 HTX ⊢
      clear hW0
      have hz0 : w0.heap.size ≤ W0.heap.size := by omega
      refine wp_region_noPanic ?_
      have HS0 : ∀ W t, St w0 w W0 g W t → W.rangeAt w.heap.size 0 (cellsB before) := fun W t s => (s.k _ _ B0.out).range
      have S0 : St w0 w W0 g W0.drew ts := ⟨(b0.mono hws).trans (Below.refl _ _).drew, HW.out.trans ((b0.mono hws).trans (Below.refl _ _).drew), HTX.out.below (Below.refl _ _).drew, .of_below (Below.refl _ _).drew, Nat.le_refl _⟩
      refine wp_region_held_drew (S := fun w' => w'.rangeAt w.heap.size 0 (cellsB before)) (by kernel_rfl) (HS0 _ _ S0) (fun hS => ?_)
      refine hd_take 0 (_) rfl rfl (by kernel_rfl) (by kernel_rfl) (by kernel_rfl) (fun _ _ _ h => h) (fun w _ => by go_simp <;> rfl) hS ?_
      refine hd_take 2 (_) rfl rfl (by kernel_rfl) (by kernel_rfl) (by kernel_rfl) (fun _ _ _ h => h) (fun w _ => by go_simp <;> rfl) hS ?_
      refine hd_take 3 (_) rfl rfl (by kernel_rfl) (by kernel_rfl) (by kernel_rfl) (fun _ _ _ h => h) (fun w _ => by go_simp <;> rfl) hS ?_
      refine hd_take 4 (_) rfl rfl (by kernel_rfl) (by kernel_rfl) (by kernel_rfl) (fun _ _ _ h => h) (fun w _ => by go_simp <;> rfl) hS ?_
      refine hd_take 5 (_) rfl rfl (by kernel_rfl) (by kernel_rfl) (by kernel_rfl) (fun _ _ _ h => h) (fun w _ => by go_simp <;> rfl) hS ?_
      simp only [List.getElem_toArray, List.getElem_cons_succ, List.getElem_cons_zero, Act.put, List.setIfInBounds_toArray, List.set_cons_zero, List.set_cons_succ]
      refine hd_take 6 (_) rfl rfl (by kernel_rfl) (by kernel_rfl) (by kernel_rfl) (fun _ _ _ h => h) (fun w _ => by go_simp <;> rfl) hS ?_
      simp only [List.getElem_toArray, List.getElem_cons_succ, List.getElem_cons_zero, Act.put, List.setIfInBounds_toArray, List.set_cons_zero, List.set_cons_succ]
      refine hd_load 1 w.heap.size 0 (cellsB before) _ _ rfl rfl rfl (by kernel_rfl) (by kernel_rfl) (by kernel_rfl) (fun _ _ _ h => h) rfl (fun w hw => hw) under_key rfl (key_info HK.out) hS ?_
      simp only [List.getElem_toArray, List.getElem_cons_succ, List.getElem_cons_zero, Act.put, List.setIfInBounds_toArray, List.set_cons_zero, List.set_cons_succ]
      refine' (fun (HIN : ∀ (ga gb : Nat) (W4 : World), Twins w0 w W0 g (ts ++ x) ga gb W4 → (_ : Nat → Nat → World → Prop) ga gb W4) => _) _
      rotate_left
      · skip
        refine hd_three 7 11 12 (by kernel_rfl) (op_call 82 #[.pointer (some ⟨g, 0, none⟩), .agg (cellsB before).toArray, .int .i64 (k : Int), .int .i64 (m : Int), .slice (some ⟨b, off, none⟩) l c] rfl rfl (by go_simp) ((HC.out _ S0.b S0.t).mono ?_)) (op_run (.pointer (some ⟨W0.heap.size, 0, none⟩)) (W0.drew.alloc (.cells (cellsB zeroK).toArray 23)) rfl rfl (by rw [← HZ.out]; go_simp) ⟨HS0 _ _ (S0.on (alloc_bel _ _)), ?_⟩) (op_run (.pointer (some ⟨W0.heap.size, 0, none⟩)) (W0.drew.alloc (.cells (cellsB zeroK).toArray 23)) rfl rfl (by rw [← HZ.out]; go_simp) ⟨HS0 _ _ (S0.on (alloc_bel _ _)), ?_⟩)
        · skip
          rintro e vC ⟨rfl, htC, hkC, hbC⟩
          have SC := S0.step htC hkC hbC
          have zC := SC.z
          refine ⟨_, rfl, HS0 _ _ SC, ?_⟩
          simp only [List.getElem_toArray, List.getElem_cons_succ, List.getElem_cons_zero, Act.put, List.setIfInBounds_toArray, List.set_cons_zero, List.set_cons_succ]
          refine hd_take 8 (_) rfl rfl (by kernel_rfl) (by kernel_rfl) (by kernel_rfl) (fun _ _ _ h => h) (fun w _ => by go_simp <;> rfl) (HS0 _ _ SC) ?_
          simp only [List.getElem_toArray, List.getElem_cons_succ, List.getElem_cons_zero, Act.put, List.setIfInBounds_toArray, List.set_cons_zero, List.set_cons_succ]
          refine hd_take 9 (_) rfl rfl (by kernel_rfl) (by kernel_rfl) (by kernel_rfl) (fun _ _ _ h => h) (fun w _ => by go_simp <;> rfl) (HS0 _ _ SC) ?_
          simp only [List.getElem_toArray, List.getElem_cons_succ, List.getElem_cons_zero, Act.put, List.setIfInBounds_toArray, List.set_cons_zero, List.set_cons_succ]
          refine hd_take 10 (_) rfl rfl (by kernel_rfl) (by kernel_rfl) (by kernel_rfl) (fun _ _ _ h => h) (fun w _ => by go_simp <;> rfl) (HS0 _ _ SC) ?_
          simp only [List.getElem_toArray, List.getElem_cons_succ, List.getElem_cons_zero, Act.put, List.setIfInBounds_toArray, List.set_cons_zero, List.set_cons_succ]
          refine hd_two 11 12 (by kernel_rfl) (op_run (.pointer (some ⟨vC.heap.size, 0, none⟩)) (vC.alloc (.cells (cellsB zeroK).toArray 23)) rfl rfl (by rw [← HZ.out]; go_simp) ⟨HS0 _ _ (SC.on (alloc_bel _ _)), ?_⟩) (op_run (.pointer (some ⟨vC.heap.size, 0, none⟩)) (vC.alloc (.cells (cellsB zeroK).toArray 23)) rfl rfl (by rw [← HZ.out]; go_simp) ⟨HS0 _ _ (SC.on (alloc_bel _ _)), ?_⟩)
          · skip
            simp only [List.getElem_toArray, List.getElem_cons_succ, List.getElem_cons_zero, Act.put, List.setIfInBounds_toArray, List.set_cons_zero, List.set_cons_succ]
            have SCA := SC.on (alloc_bel vC (.cells (cellsB zeroK).toArray 23))
            have KACA : Blk (vC.alloc (.cells (cellsB zeroK).toArray 23)) (vC.heap.size) 23 (cellsB zeroK).toArray := by have h := Blk.new vC 23 (cellsB zeroK).toArray; first | exact h | simpa using h
            have yCA : W0.heap.size ≤ vC.heap.size := by have h := SC.z; first | exact h | simpa using h
            refine hd_sole 12 (by kernel_rfl) (op_run (.pointer (some ⟨vC.heap.size + 1, 0, none⟩)) ((vC.alloc (.cells (cellsB zeroK).toArray 23)).alloc (.cells (cellsB zeroK).toArray 23)) rfl rfl (by rw [← HZ.out]; go_simp) ⟨HS0 _ _ (SCA.on (alloc_bel _ _)), ?_⟩)
            simp only [List.getElem_toArray, List.getElem_cons_succ, List.getElem_cons_zero, Act.put, List.setIfInBounds_toArray, List.set_cons_zero, List.set_cons_succ]
            have SCAB := SCA.on (alloc_bel (vC.alloc (.cells (cellsB zeroK).toArray 23)) (.cells (cellsB zeroK).toArray 23))
            have KACAB := KACA.alloc (.cells (cellsB zeroK).toArray 23)
            have LACAB := KACA.lt
            have KBCAB : Blk ((vC.alloc (.cells (cellsB zeroK).toArray 23)).alloc (.cells (cellsB zeroK).toArray 23)) (vC.heap.size + 1) 23 (cellsB zeroK).toArray := by have h := Blk.new (vC.alloc (.cells (cellsB zeroK).toArray 23)) 23 (cellsB zeroK).toArray; first | exact h | simpa using h
            have yCAB : W0.heap.size ≤ vC.heap.size + 1 := by have h := SCA.z; first | exact h | simpa using h
            obtain ⟨ga, hga⟩ : ∃ k, k = vC.heap.size := ⟨_, rfl⟩
            obtain ⟨gb, hgb⟩ : ∃ k, k = vC.heap.size + 1 := ⟨_, rfl⟩
            obtain ⟨W4, hW4⟩ : ∃ V : World, V = ((vC.alloc (.cells (cellsB zeroK).toArray 23)).alloc (.cells (cellsB zeroK).toArray 23)) := ⟨_, rfl⟩
            have hpp : Twins w0 w W0 g (ts ++ x) ga gb W4 := by rw [hga, hgb, hW4]; exact ⟨SCAB, KACAB, KBCAB, by omega, by omega, by omega⟩
            rw [← hW4, ← hgb, ← hga]
            exact HIN ga gb W4 hpp
          · skip
            simp only [List.getElem_toArray, List.getElem_cons_succ, List.getElem_cons_zero, Act.put, List.setIfInBounds_toArray, List.set_cons_zero, List.set_cons_succ]
            have SCB := SC.on (alloc_bel vC (.cells (cellsB zeroK).toArray 23))
            have KBCB : Blk (vC.alloc (.cells (cellsB zeroK).toArray 23)) (vC.heap.size) 23 (cellsB zeroK).toArray := by have h := Blk.new vC 23 (cellsB zeroK).toArray; first | exact h | simpa using h
            have yCB : W0.heap.size ≤ vC.heap.size := by have h := SC.z; first | exact h | simpa using h
            refine hd_sole 11 (by kernel_rfl) (op_run (.pointer (some ⟨vC.heap.size + 1, 0, none⟩)) ((vC.alloc (.cells (cellsB zeroK).toArray 23)).alloc (.cells (cellsB zeroK).toArray 23)) rfl rfl (by rw [← HZ.out]; go_simp) ⟨HS0 _ _ (SCB.on (alloc_bel _ _)), ?_⟩)
            simp only [List.getElem_toArray, List.getElem_cons_succ, List.getElem_cons_zero, Act.put, List.setIfInBounds_toArray, List.set_cons_zero, List.set_cons_succ]
            have SCBA := SCB.on (alloc_bel (vC.alloc (.cells (cellsB zeroK).toArray 23)) (.cells (cellsB zeroK).toArray 23))
            have KBCBA := KBCB.alloc (.cells (cellsB zeroK).toArray 23)
            have LBCBA := KBCB.lt
            have KACBA : Blk ((vC.alloc (.cells (cellsB zeroK).toArray 23)).alloc (.cells (cellsB zeroK).toArray 23)) (vC.heap.size + 1) 23 (cellsB zeroK).toArray := by have h := Blk.new (vC.alloc (.cells (cellsB zeroK).toArray 23)) 23 (cellsB zeroK).toArray; first | exact h | simpa using h
            have yCBA : W0.heap.size ≤ vC.heap.size + 1 := by have h := SCB.z; first | exact h | simpa using h
            obtain ⟨ga, hga⟩ : ∃ k, k = vC.heap.size + 1 := ⟨_, rfl⟩
            obtain ⟨gb, hgb⟩ : ∃ k, k = vC.heap.size := ⟨_, rfl⟩
            obtain ⟨W4, hW4⟩ : ∃ V : World, V = ((vC.alloc (.cells (cellsB zeroK).toArray 23)).alloc (.cells (cellsB zeroK).toArray 23)) := ⟨_, rfl⟩
            have hpp : Twins w0 w W0 g (ts ++ x) ga gb W4 := by rw [hga, hgb, hW4]; exact ⟨SCBA, KACBA, KBCBA, by omega, by omega, by omega⟩
            rw [← hW4, ← hga, ← hgb]
            exact HIN ga gb W4 hpp
        · skip
          simp only [List.getElem_toArray, List.getElem_cons_succ, List.getElem_cons_zero, Act.put, List.setIfInBounds_toArray, List.set_cons_zero, List.set_cons_succ]
          have SA := S0.on (alloc_bel W0.drew (.cells (cellsB zeroK).toArray 23))
          have KAA : Blk (W0.drew.alloc (.cells (cellsB zeroK).toArray 23)) (W0.heap.size) 23 (cellsB zeroK).toArray := by have h := Blk.new W0.drew 23 (cellsB zeroK).toArray; first | exact h | simpa using h
          have yA : W0.heap.size ≤ W0.heap.size := by have h := S0.z; first | exact h | simpa using h
          refine hd_two 7 12 (by kernel_rfl) (op_call 82 #[.pointer (some ⟨g, 0, none⟩), .agg (cellsB before).toArray, .int .i64 (k : Int), .int .i64 (m : Int), .slice (some ⟨b, off, none⟩) l c] rfl rfl (by go_simp) ((HC.out _ SA.b SA.t).mono ?_)) (op_run (.pointer (some ⟨W0.heap.size + 1, 0, none⟩)) ((W0.drew.alloc (.cells (cellsB zeroK).toArray 23)).alloc (.cells (cellsB zeroK).toArray 23)) rfl rfl (by rw [← HZ.out]; go_simp) ⟨HS0 _ _ (SA.on (alloc_bel _ _)), ?_⟩)
          · skip
            rintro e vAC ⟨rfl, htAC, hkAC, hbAC⟩
            have SAC := SA.step htAC hkAC hbAC
            have zAC := SAC.z
            have KAAC := hkAC _ _ KAA
            have LAAC := KAAC.lt
            refine ⟨_, rfl, HS0 _ _ SAC, ?_⟩
            simp only [List.getElem_toArray, List.getElem_cons_succ, List.getElem_cons_zero, Act.put, List.setIfInBounds_toArray, List.set_cons_zero, List.set_cons_succ]
            refine hd_take 8 (_) rfl rfl (by kernel_rfl) (by kernel_rfl) (by kernel_rfl) (fun _ _ _ h => h) (fun w _ => by go_simp <;> rfl) (HS0 _ _ SAC) ?_
            simp only [List.getElem_toArray, List.getElem_cons_succ, List.getElem_cons_zero, Act.put, List.setIfInBounds_toArray, List.set_cons_zero, List.set_cons_succ]
            refine hd_take 9 (_) rfl rfl (by kernel_rfl) (by kernel_rfl) (by kernel_rfl) (fun _ _ _ h => h) (fun w _ => by go_simp <;> rfl) (HS0 _ _ SAC) ?_
            simp only [List.getElem_toArray, List.getElem_cons_succ, List.getElem_cons_zero, Act.put, List.setIfInBounds_toArray, List.set_cons_zero, List.set_cons_succ]
            refine hd_take 10 (_) rfl rfl (by kernel_rfl) (by kernel_rfl) (by kernel_rfl) (fun _ _ _ h => h) (fun w _ => by go_simp <;> rfl) (HS0 _ _ SAC) ?_
            simp only [List.getElem_toArray, List.getElem_cons_succ, List.getElem_cons_zero, Act.put, List.setIfInBounds_toArray, List.set_cons_zero, List.set_cons_succ]
            refine hd_sole 12 (by kernel_rfl) (op_run (.pointer (some ⟨vAC.heap.size, 0, none⟩)) (vAC.alloc (.cells (cellsB zeroK).toArray 23)) rfl rfl (by rw [← HZ.out]; go_simp) ⟨HS0 _ _ (SAC.on (alloc_bel _ _)), ?_⟩)
            simp only [List.getElem_toArray, List.getElem_cons_succ, List.getElem_cons_zero, Act.put, List.setIfInBounds_toArray, List.set_cons_zero, List.set_cons_succ]
            have SACB := SAC.on (alloc_bel vAC (.cells (cellsB zeroK).toArray 23))
            have KAACB := KAAC.alloc (.cells (cellsB zeroK).toArray 23)
            have LAACB := KAAC.lt
            have KBACB : Blk (vAC.alloc (.cells (cellsB zeroK).toArray 23)) (vAC.heap.size) 23 (cellsB zeroK).toArray := by have h := Blk.new vAC 23 (cellsB zeroK).toArray; first | exact h | simpa using h
            have yACB : W0.heap.size ≤ vAC.heap.size := by have h := SAC.z; first | exact h | simpa using h
            obtain ⟨ga, hga⟩ : ∃ k, k = W0.heap.size := ⟨_, rfl⟩
            obtain ⟨gb, hgb⟩ : ∃ k, k = vAC.heap.size := ⟨_, rfl⟩
            obtain ⟨W4, hW4⟩ : ∃ V : World, V = (vAC.alloc (.cells (cellsB zeroK).toArray 23)) := ⟨_, rfl⟩
            have hpp : Twins w0 w W0 g (ts ++ x) ga gb W4 := by rw [hga, hgb, hW4]; exact ⟨SACB, KAACB, KBACB, by omega, by omega, by omega⟩
            rw [← hW4, ← hgb, ← hga]
            exact HIN ga gb W4 hpp
          · skip
            simp only [List.getElem_toArray, List.getElem_cons_succ, List.getElem_cons_zero, Act.put, List.setIfInBounds_toArray, List.set_cons_zero, List.set_cons_succ]
            have SAB := SA.on (alloc_bel (W0.drew.alloc (.cells (cellsB zeroK).toArray 23)) (.cells (cellsB zeroK).toArray 23))
            have KAAB := KAA.alloc (.cells (cellsB zeroK).toArray 23)
            have LAAB := KAA.lt
            have KBAB : Blk ((W0.drew.alloc (.cells (cellsB zeroK).toArray 23)).alloc (.cells (cellsB zeroK).toArray 23)) (W0.heap.size + 1) 23 (cellsB zeroK).toArray := by have h := Blk.new (W0.drew.alloc (.cells (cellsB zeroK).toArray 23)) 23 (cellsB zeroK).toArray; first | exact h | simpa using h
            have yAB : W0.heap.size ≤ W0.heap.size + 1 := by have h := SA.z; first | exact h | simpa using h
            refine hd_sole 7 (by kernel_rfl) (op_call 82 #[.pointer (some ⟨g, 0, none⟩), .agg (cellsB before).toArray, .int .i64 (k : Int), .int .i64 (m : Int), .slice (some ⟨b, off, none⟩) l c] rfl rfl (by go_simp) ((HC.out _ SAB.b SAB.t).mono ?_))
            rintro e vABC ⟨rfl, htABC, hkABC, hbABC⟩
            have SABC := SAB.step htABC hkABC hbABC
            have zABC := SABC.z
            have KAABC := hkABC _ _ KAAB
            have LAABC := KAABC.lt
            have KBABC := hkABC _ _ KBAB
            have LBABC := KBABC.lt
            refine ⟨_, rfl, HS0 _ _ SABC, ?_⟩
            simp only [List.getElem_toArray, List.getElem_cons_succ, List.getElem_cons_zero, Act.put, List.setIfInBounds_toArray, List.set_cons_zero, List.set_cons_succ]
            refine hd_take 8 (_) rfl rfl (by kernel_rfl) (by kernel_rfl) (by kernel_rfl) (fun _ _ _ h => h) (fun w _ => by go_simp <;> rfl) (HS0 _ _ SABC) ?_
            simp only [List.getElem_toArray, List.getElem_cons_succ, List.getElem_cons_zero, Act.put, List.setIfInBounds_toArray, List.set_cons_zero, List.set_cons_succ]
            refine hd_take 9 (_) rfl rfl (by kernel_rfl) (by kernel_rfl) (by kernel_rfl) (fun _ _ _ h => h) (fun w _ => by go_simp <;> rfl) (HS0 _ _ SABC) ?_
            simp only [List.getElem_toArray, List.getElem_cons_succ, List.getElem_cons_zero, Act.put, List.setIfInBounds_toArray, List.set_cons_zero, List.set_cons_succ]
            refine hd_take 10 (_) rfl rfl (by kernel_rfl) (by kernel_rfl) (by kernel_rfl) (fun _ _ _ h => h) (fun w _ => by go_simp <;> rfl) (HS0 _ _ SABC) ?_
            simp only [List.getElem_toArray, List.getElem_cons_succ, List.getElem_cons_zero, Act.put, List.setIfInBounds_toArray, List.set_cons_zero, List.set_cons_succ]
            obtain ⟨ga, hga⟩ : ∃ k, k = W0.heap.size := ⟨_, rfl⟩
            obtain ⟨gb, hgb⟩ : ∃ k, k = W0.heap.size + 1 := ⟨_, rfl⟩
            obtain ⟨W4, hW4⟩ : ∃ V : World, V = vABC := ⟨_, rfl⟩
            have hpp : Twins w0 w W0 g (ts ++ x) ga gb W4 := by rw [hga, hgb, hW4]; exact ⟨SABC, KAABC, KBABC, by omega, by omega, by omega⟩
            rw [← hW4, ← hgb, ← hga]
            exact HIN ga gb W4 hpp
        · skip
          simp only [List.getElem_toArray, List.getElem_cons_succ, List.getElem_cons_zero, Act.put, List.setIfInBounds_toArray, List.set_cons_zero, List.set_cons_succ]
          have SB := S0.on (alloc_bel W0.drew (.cells (cellsB zeroK).toArray 23))
          have KBB : Blk (W0.drew.alloc (.cells (cellsB zeroK).toArray 23)) (W0.heap.size) 23 (cellsB zeroK).toArray := by have h := Blk.new W0.drew 23 (cellsB zeroK).toArray; first | exact h | simpa using h
          have yB : W0.heap.size ≤ W0.heap.size := by have h := S0.z; first | exact h | simpa using h
          refine hd_two 7 11 (by kernel_rfl) (op_call 82 #[.pointer (some ⟨g, 0, none⟩), .agg (cellsB before).toArray, .int .i64 (k : Int), .int .i64 (m : Int), .slice (some ⟨b, off, none⟩) l c] rfl rfl (by go_simp) ((HC.out _ SB.b SB.t).mono ?_)) (op_run (.pointer (some ⟨W0.heap.size + 1, 0, none⟩)) ((W0.drew.alloc (.cells (cellsB zeroK).toArray 23)).alloc (.cells (cellsB zeroK).toArray 23)) rfl rfl (by rw [← HZ.out]; go_simp) ⟨HS0 _ _ (SB.on (alloc_bel _ _)), ?_⟩)
          · skip
            rintro e vBC ⟨rfl, htBC, hkBC, hbBC⟩
            have SBC := SB.step htBC hkBC hbBC
            have zBC := SBC.z
            have KBBC := hkBC _ _ KBB
            have LBBC := KBBC.lt
            refine ⟨_, rfl, HS0 _ _ SBC, ?_⟩
            simp only [List.getElem_toArray, List.getElem_cons_succ, List.getElem_cons_zero, Act.put, List.setIfInBounds_toArray, List.set_cons_zero, List.set_cons_succ]
            refine hd_take 8 (_) rfl rfl (by kernel_rfl) (by kernel_rfl) (by kernel_rfl) (fun _ _ _ h => h) (fun w _ => by go_simp <;> rfl) (HS0 _ _ SBC) ?_
            simp only [List.getElem_toArray, List.getElem_cons_succ, List.getElem_cons_zero, Act.put, List.setIfInBounds_toArray, List.set_cons_zero, List.set_cons_succ]
            refine hd_take 9 (_) rfl rfl (by kernel_rfl) (by kernel_rfl) (by kernel_rfl) (fun _ _ _ h => h) (fun w _ => by go_simp <;> rfl) (HS0 _ _ SBC) ?_
            simp only [List.getElem_toArray, List.getElem_cons_succ, List.getElem_cons_zero, Act.put, List.setIfInBounds_toArray, List.set_cons_zero, List.set_cons_succ]
            refine hd_take 10 (_) rfl rfl (by kernel_rfl) (by kernel_rfl) (by kernel_rfl) (fun _ _ _ h => h) (fun w _ => by go_simp <;> rfl) (HS0 _ _ SBC) ?_
            simp only [List.getElem_toArray, List.getElem_cons_succ, List.getElem_cons_zero, Act.put, List.setIfInBounds_toArray, List.set_cons_zero, List.set_cons_succ]
            refine hd_sole 11 (by kernel_rfl) (op_run (.pointer (some ⟨vBC.heap.size, 0, none⟩)) (vBC.alloc (.cells (cellsB zeroK).toArray 23)) rfl rfl (by rw [← HZ.out]; go_simp) ⟨HS0 _ _ (SBC.on (alloc_bel _ _)), ?_⟩)
            simp only [List.getElem_toArray, List.getElem_cons_succ, List.getElem_cons_zero, Act.put, List.setIfInBounds_toArray, List.set_cons_zero, List.set_cons_succ]
            have SBCA := SBC.on (alloc_bel vBC (.cells (cellsB zeroK).toArray 23))
            have KBBCA := KBBC.alloc (.cells (cellsB zeroK).toArray 23)
            have LBBCA := KBBC.lt
            have KABCA : Blk (vBC.alloc (.cells (cellsB zeroK).toArray 23)) (vBC.heap.size) 23 (cellsB zeroK).toArray := by have h := Blk.new vBC 23 (cellsB zeroK).toArray; first | exact h | simpa using h
            have yBCA : W0.heap.size ≤ vBC.heap.size := by have h := SBC.z; first | exact h | simpa using h
            obtain ⟨ga, hga⟩ : ∃ k, k = vBC.heap.size := ⟨_, rfl⟩
            obtain ⟨gb, hgb⟩ : ∃ k, k = W0.heap.size := ⟨_, rfl⟩
            obtain ⟨W4, hW4⟩ : ∃ V : World, V = (vBC.alloc (.cells (cellsB zeroK).toArray 23)) := ⟨_, rfl⟩
            have hpp : Twins w0 w W0 g (ts ++ x) ga gb W4 := by rw [hga, hgb, hW4]; exact ⟨SBCA, KABCA, KBBCA, by omega, by omega, by omega⟩
            rw [← hW4, ← hga, ← hgb]
            exact HIN ga gb W4 hpp
          · skip
            simp only [List.getElem_toArray, List.getElem_cons_succ, List.getElem_cons_zero, Act.put, List.setIfInBounds_toArray, List.set_cons_zero, List.set_cons_succ]
            have SBA := SB.on (alloc_bel (W0.drew.alloc (.cells (cellsB zeroK).toArray 23)) (.cells (cellsB zeroK).toArray 23))
            have KBBA := KBB.alloc (.cells (cellsB zeroK).toArray 23)
            have LBBA := KBB.lt
            have KABA : Blk ((W0.drew.alloc (.cells (cellsB zeroK).toArray 23)).alloc (.cells (cellsB zeroK).toArray 23)) (W0.heap.size + 1) 23 (cellsB zeroK).toArray := by have h := Blk.new (W0.drew.alloc (.cells (cellsB zeroK).toArray 23)) 23 (cellsB zeroK).toArray; first | exact h | simpa using h
            have yBA : W0.heap.size ≤ W0.heap.size + 1 := by have h := SB.z; first | exact h | simpa using h
            refine hd_sole 7 (by kernel_rfl) (op_call 82 #[.pointer (some ⟨g, 0, none⟩), .agg (cellsB before).toArray, .int .i64 (k : Int), .int .i64 (m : Int), .slice (some ⟨b, off, none⟩) l c] rfl rfl (by go_simp) ((HC.out _ SBA.b SBA.t).mono ?_))
            rintro e vBAC ⟨rfl, htBAC, hkBAC, hbBAC⟩
            have SBAC := SBA.step htBAC hkBAC hbBAC
            have zBAC := SBAC.z
            have KBBAC := hkBAC _ _ KBBA
            have LBBAC := KBBAC.lt
            have KABAC := hkBAC _ _ KABA
            have LABAC := KABAC.lt
            refine ⟨_, rfl, HS0 _ _ SBAC, ?_⟩
            simp only [List.getElem_toArray, List.getElem_cons_succ, List.getElem_cons_zero, Act.put, List.setIfInBounds_toArray, List.set_cons_zero, List.set_cons_succ]
            refine hd_take 8 (_) rfl rfl (by kernel_rfl) (by kernel_rfl) (by kernel_rfl) (fun _ _ _ h => h) (fun w _ => by go_simp <;> rfl) (HS0 _ _ SBAC) ?_
            simp only [List.getElem_toArray, List.getElem_cons_succ, List.getElem_cons_zero, Act.put, List.setIfInBounds_toArray, List.set_cons_zero, List.set_cons_succ]
            refine hd_take 9 (_) rfl rfl (by kernel_rfl) (by kernel_rfl) (by kernel_rfl) (fun _ _ _ h => h) (fun w _ => by go_simp <;> rfl) (HS0 _ _ SBAC) ?_
            simp only [List.getElem_toArray, List.getElem_cons_succ, List.getElem_cons_zero, Act.put, List.setIfInBounds_toArray, List.set_cons_zero, List.set_cons_succ]
            refine hd_take 10 (_) rfl rfl (by kernel_rfl) (by kernel_rfl) (by kernel_rfl) (fun _ _ _ h => h) (fun w _ => by go_simp <;> rfl) (HS0 _ _ SBAC) ?_
            simp only [List.getElem_toArray, List.getElem_cons_succ, List.getElem_cons_zero, Act.put, List.setIfInBounds_toArray, List.set_cons_zero, List.set_cons_succ]
            obtain ⟨ga, hga⟩ : ∃ k, k = W0.heap.size + 1 := ⟨_, rfl⟩
            obtain ⟨gb, hgb⟩ : ∃ k, k = W0.heap.size := ⟨_, rfl⟩
            obtain ⟨W4, hW4⟩ : ∃ V : World, V = vBAC := ⟨_, rfl⟩
            have hpp : Twins w0 w W0 g (ts ++ x) ga gb W4 := by rw [hga, hgb, hW4]; exact ⟨SBAC, KABAC, KBBAC, by omega, by omega, by omega⟩
            rw [← hW4, ← hga, ← hgb]
            exact HIN ga gb W4 hpp
      · skip
        intro ga gb W4 hpp
        obtain ⟨ST, BA, BB, hne, hga, hgb⟩ := hpp
        have hSa := HS0 _ _ ST
        have hSb := range_setRow hSa (g' := ga) (by omega) (cellsB p).toArray
        refine hd_store 13 ga (cellsB p).toArray _ _ _ rfl rfl rfl (by kernel_rfl) rfl rfl BA (cellsB_size _ HPL.out) (by rw [List.size_toArray, List.size_toArray, cellsB_length, cellsB_length, HPL.out]; rfl) (all_oneCell_toArray (cells_one p)) hSb ?_
        have BB1 := BB.row_ne (g' := ga) (cs' := (cellsB p).toArray) (Ne.symm hne)
        have hSc := range_setRow hSb (g' := gb) (by omega) (cellsB q).toArray
        refine hd_store 14 gb (cellsB q).toArray _ _ _ rfl rfl rfl (by kernel_rfl) rfl rfl BB1 (cellsB_size _ HQL.out) (by rw [List.size_toArray, List.size_toArray, cellsB_length, cellsB_length, HQL.out]; rfl) (all_oneCell_toArray (cells_one q)) hSc ?_
        refine wpAnyH_done (by kernel_rfl) (NoPanic.normal ?_) _
        simp only [List.getElem_toArray, List.getElem_cons_succ, List.getElem_cons_zero, Act.put, List.setIfInBounds_toArray, List.set_cons_zero, List.set_cons_succ]
        have SF := (ST.row BA hga hz0 (cellsB p).toArray).row BB1 hgb hz0 (cellsB q).toArray
        have BAF := (BA.setRow (cellsB p).toArray).row_ne (g' := gb) (cs' := (cellsB q).toArray) hne
        have BBF := BB1.setRow (cellsB q).toArray
        generalize (W4.setRow ga (cellsB p).toArray).setRow gb (cellsB q).toArray = W5 at SF BAF BBF ⊢
        clear hSa hSb hSc ST BA BB BB1 S0
        have SF := Lib.hid SF
        go_wp2_with fail
        refine wp_region_noPanic ?_
        have SD := SF.out.on (Below.refl _ _).drew
        have BAD := BAF.drew
        have BBD := BBF.drew
        refine wp_region_held_drew (S := fun w' => w'.rangeAt ga 0 (cellsB p) ∧ w'.rangeAt gb 0 (cellsB q) ∧ w'.rangeAt b (off + l * 16) (cellsB h0)) (by kernel_rfl) ⟨BAD.range, BBD.range, HR.out _ SD.b⟩ (fun hS => ?_)
        refine hd_take 1 (_) rfl rfl (by kernel_rfl) (by kernel_rfl) (by kernel_rfl) (fun _ _ _ h => h) (fun w _ => by go_simp <;> rfl) hS ?_
        refine hd_take 3 (_) rfl rfl (by kernel_rfl) (by kernel_rfl) (by kernel_rfl) (fun _ _ _ h => h) (fun w _ => by go_simp <;> rfl) hS ?_
        refine hd_take 4 (_) rfl rfl (by kernel_rfl) (by kernel_rfl) (by kernel_rfl) (fun _ _ _ h => h) (fun w _ => by go_simp <;> rfl) hS ?_
        simp only [List.getElem_toArray, List.getElem_cons_succ, List.getElem_cons_zero, Act.put, List.setIfInBounds_toArray, List.set_cons_zero, List.set_cons_succ]
        refine hd_take 5 (_) rfl rfl (by kernel_rfl) (by kernel_rfl) (by kernel_rfl) (fun _ _ _ h => h) (fun w _ => by go_simp <;> rfl) hS ?_
        simp only [List.getElem_toArray, List.getElem_cons_succ, List.getElem_cons_zero, Act.put, List.setIfInBounds_toArray, List.set_cons_zero, List.set_cons_succ]
        refine hd_load 0 ga 0 (cellsB p) _ _ rfl rfl rfl (by kernel_rfl) (by kernel_rfl) (by kernel_rfl) (fun _ _ _ h => h) rfl (fun w hw => hw.1) under_key rfl (key_info HPL.out) hS ?_
        refine hd_load 2 gb 0 (cellsB q) _ _ rfl rfl rfl (by kernel_rfl) (by kernel_rfl) (by kernel_rfl) (fun _ _ _ h => h) rfl (fun w hw => hw.2.1) under_key rfl (key_info HQL.out) hS ?_
        refine hd_load 6 b (off + l * 16) (cellsB h0) _ _ rfl rfl rfl (by kernel_rfl) (by kernel_rfl) (by kernel_rfl) (fun _ _ _ h => h) rfl (fun w hw => hw.2.2) under_key rfl (key_info HH.out) hS ?_
        simp only [List.getElem_toArray, List.getElem_cons_succ, List.getElem_cons_zero, Act.put, List.setIfInBounds_toArray, List.set_cons_zero, List.set_cons_succ]
        refine hd_calls 7 68 #[.agg (cellsB q).toArray, .agg (cellsB h0).toArray] rfl rfl (by kernel_rfl) (by go_simp) ((HNT1.out _).mono ?_)
        rintro e u1 ⟨⟨A1, c1, rfl, ho1⟩, hb1⟩
        have SN1 := SD.on hb1
        have Pn1 := BAD.below' hb1
        have Qn1 := BBD.below' hb1
        have on1 := ho1.le_ SD.b.size
        refine ⟨_, rfl, ⟨Pn1.range, Qn1.range, HR.out _ SN1.b⟩, ?_⟩
        simp only [List.getElem_toArray, List.getElem_cons_succ, List.getElem_cons_zero, Act.put, List.setIfInBounds_toArray, List.set_cons_zero, List.set_cons_succ]
        refine hd_calls 8 65 #[.pointer (some ⟨g, 0, none⟩), .slice A1 33 c1] rfl rfl (by kernel_rfl) (by go_simp) ((HTK1.out _ _ _ SN1.t on1).mono ?_)
        rintro e x1 ⟨rfl, ht1, hk1, hc1⟩
        have SM1 := SN1.step ht1 hk1 hc1
        have Pm1 := hk1 _ _ Pn1
        have Qm1 := hk1 _ _ Qn1
        refine ⟨_, rfl, ⟨Pm1.range, Qm1.range, HR.out _ SM1.b⟩, ?_⟩
        simp only [List.getElem_toArray, List.getElem_cons_succ, List.getElem_cons_zero, Act.put, List.setIfInBounds_toArray, List.set_cons_zero, List.set_cons_succ]
        have hS9 := And.intro Pm1.range (And.intro Qm1.range (HR.out _ SM1.b))
        have E1 := SM1.k _ _ B1.out
        have E2 := SM1.k _ _ B2.out
        have hSx := And.intro (range_setRow hS9.1 (g' := w.heap.size + 1) (by omega) (cellsB p).toArray) (And.intro (range_setRow hS9.2.1 (g' := w.heap.size + 1) (by omega) (cellsB p).toArray) (range_setRow hS9.2.2 (g' := w.heap.size + 1) (by have := HBW.out; omega) (cellsB p).toArray))
        refine hd_store 9 (w.heap.size + 1) (cellsB p).toArray _ _ _ rfl rfl rfl (by kernel_rfl) rfl rfl E1 (cellsB_size _ HPL.out) (by rw [List.size_toArray, List.size_toArray, cellsB_length, cellsB_length, HPL.out]; rfl) (all_oneCell_toArray (cells_one p)) hSx ?_
        have E2' := E2.row_ne (g' := w.heap.size + 1) (cs' := (cellsB p).toArray) (by omega)
        have hSy := And.intro (range_setRow hSx.1 (g' := w.heap.size + 1 + 1) (by omega) (cellsB d1).toArray) (And.intro (range_setRow hSx.2.1 (g' := w.heap.size + 1 + 1) (by omega) (cellsB d1).toArray) (range_setRow hSx.2.2 (g' := w.heap.size + 1 + 1) (by have := HBW.out; omega) (cellsB d1).toArray))
        refine hd_store 10 (w.heap.size + 1 + 1) (cellsB d1).toArray _ _ _ rfl rfl rfl (by kernel_rfl) rfl rfl E2' (cellsB_size _ HDL1.out) (by rw [List.size_toArray, List.size_toArray, cellsB_length, cellsB_length, HDL1.out]; rfl) (all_oneCell_toArray (cells_one d1)) hSy ?_
        refine wpAnyH_done (by kernel_rfl) (NoPanic.normal ?_) _
        simp only [List.getElem_toArray, List.getElem_cons_succ, List.getElem_cons_zero, Act.put, List.setIfInBounds_toArray, List.set_cons_zero, List.set_cons_succ]
        have F1 := Lib.hid ((E1.setRow (cellsB p).toArray).row_ne (g' := w.heap.size + 1 + 1) (cs' := (cellsB d1).toArray) (by omega))
        have F2 := Lib.hid (E2'.setRow (cellsB d1).toArray)
        have FT := Lib.hid ((SM1.t.row E1 (cellsB p).toArray).row E2' (cellsB d1).toArray)
        have FK := Lib.hid ((((KeepT.of_below b0).trans SM1.k).rowAbove (g := w.heap.size + 1) (by omega) (cellsB p).toArray).rowAbove (g := w.heap.size + 1 + 1) (by omega) (cellsB d1).toArray)
        have FB := Lib.hid (below_setRow (below_setRow SM1.a (g := w.heap.size + 1) (by omega) (cellsB p).toArray) (g := w.heap.size + 1 + 1) (by omega) (cellsB d1).toArray)
        clear hSx hSy E1 E2 E2' hS hS9
        go_wp2_with fail
        refine bodyPost_ret (v := .tuple #[.agg (cellsB p).toArray, .agg (cellsB d1).toArray]) ?_ rfl ⟨rfl, by have h := FT.out; simpa only [List.append_assoc, List.cons_append, List.nil_append] using h, FK.out, FB.out⟩
        rw [results_cell2 Try.results82]
        simp [asAddr, Result.andThen, run_loadVar_row _ (w.heap.size + 1) _ _ _ (0, 0) _ F1.out under_key rfl (cellsB_size _ HPL.out), run_loadVar_row _ (w.heap.size + 1 + 1) _ _ _ (0, 0) _ F2.out under_key rfl (cellsB_size _ HDL1.out)]
    · skip
      have hki : ¬ (m : Int) ≤ ((splitS n : Nat) : Int) := by omega
      have hki2 : ((splitS n : Nat) : Int) < (m : Int) := by omega
      have hkn : ((splitS n : Nat) : Int) < (n : Int) := by omega
      obtain ⟨l, hl1⟩ : ∃ l, path.length = l + 1 := ⟨path.length - 1, by rw [hp, partsS_high wh h2 hne hk]; omega⟩
      rw [growS_high _ _ h2 hne hk]
      have hle := growS_le before (n - splitS n) (m - splitS n) (initK path)
      obtain ⟨hpl, hql⟩ := growS_length hl (n - splitS n) (m - splitS n) (path := initK path) (fun k hk => h.2 k (initK_mem hk))
      have HC : Hid (∀ W, Below w0.heap.size w0 W → TX w0.heap.size W g ts → Calls Try.prog 82 #[.pointer (some ⟨g, 0, none⟩), .agg (cellsB before).toArray, .int .i64 ((n : Int) - ((splitS n : Nat) : Int)), .int .i64 ((m : Int) - ((splitS n : Nat) : Int)), .slice A l c] W (GrowEnd w0 g ts (growS before (n - splitS n) (m - splitS n) (initK path)) W)) := fun W hW hT => by
        have hlen : l = (initK path).length := by rw [initK_length, hl1]; omega
        rw [hlen]
        rw [show (n : Int) - ((splitS n : Nat) : Int) = ((n - splitS n : Nat) : Int) from by omega, show (m : Int) - ((splitS n : Nat) : Int) = ((m - splitS n : Nat) : Int) from by omega]
        exact ih (n - splitS n) (by omega) (m - splitS n) false (initK path) A c ts W (by omega) (by omega) (by omega) (by rw [initK_length, hp, partsS_high wh h2 hne hk]; omega) h.init hW hT (by omega)
      obtain ⟨b, off, rfl, hb, hr, hhl⟩ := h.lastAt hl1
      have HR : Hid (∀ W, Below w0.heap.size w0 W → W.rangeAt b (off + l * 16) (cellsB (lastK path))) := fun W hW => range_below hr hW
      have HH := Lib.hid hhl
      have hli : (l : Int) ≤ 140737488351232 := by omega
      have hlc : l ≤ c := by omega
      have hllt : (l : Int) < (l : Int) + 1 := by omega
      have hsl := fun W => slice_keys_to W (some ⟨b, off, none⟩) (l + 1) c l hlc
      generalize growS before (n - splitS n) (m - splitS n) (initK path) = r at HC hle hpl hql ⊢
      obtain ⟨p, q, x⟩ := r
      unfold GrowEnd at HC ⊢
      dsimp only at HC hle hpl hql ⊢
      generalize lastK path = h0 at HR HH ⊢
      rw [hl1]
      generalize splitS n = k at *
      have HPL := Lib.hid hpl
      have HQL := Lib.hid hql
      have w1 : IntKind.i64.wrap ((n : Int) - (k : Int)) = (n : Int) - (k : Int) := by rw [IntKind.wrap_i64]; omega
      have w2 : IntKind.i64.wrap ((m : Int) - (k : Int)) = (m : Int) - (k : Int) := by rw [IntKind.wrap_i64]; omega
      have HNT1 : Hid (∀ W, Calls Try.prog 68 #[.agg (cellsB h0).toArray, .agg (cellsB p).toArray] W fun e w' => (∃ A c, e = .returned (.slice A 33 c) ∧ OB W.heap.size w' A c (nodeT h0 p)) ∧ Below W.heap.size W w') := fun W => nodeText_any h0 p W (by first | exact HPL.out | exact HQL.out | exact HH.out) (by first | exact HH.out | exact HPL.out | exact HQL.out)
      have HNL1 : Hid ((nodeT h0 p).length = 33) := by unfold Hid nodeT; simp [HPL.out, HQL.out, HH.out]
      generalize nodeT h0 p = t1 at HNT1 HNL1 ⊢
      have HTK1 : Hid (∀ X d W, TX w0.heap.size W g (ts ++ x) → OB w0.heap.size W X d t1 → Calls Try.prog 65 #[.pointer (some ⟨g, 0, none⟩), .slice X 33 d] W fun e w' => e = .returned (.agg (cellsB (digS t1)).toArray) ∧ TX w0.heap.size w' g ((ts ++ x) ++ [t1]) ∧ KeepT W w' ∧ Below w0.heap.size W w') := fun X d W h1 h2 => take_any _ t1 X d g W HNL1.out h1 h2 (by omega) (by simp only [List.length_append, List.length_cons, List.length_nil]; omega)
      have HDL1 : Hid ((digS t1).length = 16) := digS_length _
      generalize digS t1 = d1 at HDL1 HTK1 ⊢
      have HNT2 : Hid (∀ W, Calls Try.prog 68 #[.agg (cellsB h0).toArray, .agg (cellsB q).toArray] W fun e w' => (∃ A c, e = .returned (.slice A 33 c) ∧ OB W.heap.size w' A c (nodeT h0 q)) ∧ Below W.heap.size W w') := fun W => nodeText_any h0 q W (by first | exact HPL.out | exact HQL.out | exact HH.out) (by first | exact HH.out | exact HPL.out | exact HQL.out)
      have HNL2 : Hid ((nodeT h0 q).length = 33) := by unfold Hid nodeT; simp [HPL.out, HQL.out, HH.out]
      generalize nodeT h0 q = t2 at HNT2 HNL2 ⊢
      have HTK2 : Hid (∀ X d W, TX w0.heap.size W g ((ts ++ x) ++ [t1]) → OB w0.heap.size W X d t2 → Calls Try.prog 65 #[.pointer (some ⟨g, 0, none⟩), .slice X 33 d] W fun e w' => e = .returned (.agg (cellsB (digS t2)).toArray) ∧ TX w0.heap.size w' g (((ts ++ x) ++ [t1]) ++ [t2]) ∧ KeepT W w' ∧ Below w0.heap.size W w') := fun X d W h1 h2 => take_any _ t2 X d g W HNL2.out h1 h2 (by omega) (by simp only [List.length_append, List.length_cons, List.length_nil]; omega)
      have HDL2 : Hid ((digS t2).length = 16) := digS_length _
      generalize digS t2 = d2 at HDL2 HTK2 ⊢
      have HBW : Hid (b < w0.heap.size) := hb
      clear ih h hp hl1 hw ht hts hle hr hhl hb hl hpl hql
      go_enter Try.func82, Try.ntmps82
      go_wp2_with (go_at_call 72; rw [HZ.out]; refine (HSP.out _).mono ?_; rintro e w1 ⟨rfl, rfl⟩)
      obtain ⟨W0, hW0⟩ : ∃ W : World, W = ((w.alloc (.cells (cellsB before).toArray 23)).alloc (.cells (cellsB zeroK).toArray 23)).alloc (.cells (cellsB zeroK).toArray 23) := ⟨_, rfl⟩
      have hzz : W0.heap.size = w.heap.size + 1 + 1 + 1 := by rw [hW0]; simp
      rw [← hW0] at b0 B0 B1 B2 HTX ⊢
      clear hW0
      have hz0 : w0.heap.size ≤ W0.heap.size := by omega
      refine wp_region_noPanic ?_
      have HS0 : ∀ W t, St w0 w W0 g W t → W.rangeAt w.heap.size 0 (cellsB before) := fun W t s => (s.k _ _ B0.out).range
      have S0 : St w0 w W0 g W0.drew ts := ⟨(b0.mono hws).trans (Below.refl _ _).drew, HW.out.trans ((b0.mono hws).trans (Below.refl _ _).drew), HTX.out.below (Below.refl _ _).drew, .of_below (Below.refl _ _).drew, Nat.le_refl _⟩
      refine wp_region_held_drew (S := fun w' => w'.rangeAt w.heap.size 0 (cellsB before)) (by kernel_rfl) (HS0 _ _ S0) (fun hS => ?_)
      refine hd_take 0 (_) rfl rfl (by kernel_rfl) (by kernel_rfl) (by kernel_rfl) (fun _ _ _ h => h) (fun w _ => by go_simp <;> rfl) hS ?_
      refine hd_take 2 (_) rfl rfl (by kernel_rfl) (by kernel_rfl) (by kernel_rfl) (fun _ _ _ h => h) (fun w _ => by go_simp <;> rfl) hS ?_
      refine hd_take 3 (_) rfl rfl (by kernel_rfl) (by kernel_rfl) (by kernel_rfl) (fun _ _ _ h => h) (fun w _ => by go_simp <;> rfl) hS ?_
      refine hd_take 5 (_) rfl rfl (by kernel_rfl) (by kernel_rfl) (by kernel_rfl) (fun _ _ _ h => h) (fun w _ => by go_simp <;> rfl) hS ?_
      refine hd_take 6 (_) rfl rfl (by kernel_rfl) (by kernel_rfl) (by kernel_rfl) (fun _ _ _ h => h) (fun w _ => by go_simp <;> rfl) hS ?_
      refine hd_take 8 (_) rfl rfl (by kernel_rfl) (by kernel_rfl) (by kernel_rfl) (fun _ _ _ h => h) (fun w _ => by go_simp <;> rfl) hS ?_
      refine hd_take 9 (_) rfl rfl (by kernel_rfl) (by kernel_rfl) (by kernel_rfl) (fun _ _ _ h => h) (fun w _ => by go_simp <;> rfl) hS ?_
      simp only [List.getElem_toArray, List.getElem_cons_succ, List.getElem_cons_zero, Act.put, List.setIfInBounds_toArray, List.set_cons_zero, List.set_cons_succ]
      refine hd_take 4 (_) rfl rfl (by kernel_rfl) (by kernel_rfl) (by kernel_rfl) (fun _ _ _ h => h) (fun w _ => by go_simp <;> rfl) hS ?_
      refine hd_take 7 (_) rfl rfl (by kernel_rfl) (by kernel_rfl) (by kernel_rfl) (fun _ _ _ h => h) (fun w _ => by go_simp <;> rfl) hS ?_
      refine hd_take 10 (_) rfl rfl (by kernel_rfl) (by kernel_rfl) (by kernel_rfl) (fun _ _ _ h => h) (fun w _ => by go_simp <;> rfl) hS ?_
      simp only [List.getElem_toArray, List.getElem_cons_succ, List.getElem_cons_zero, Act.put, List.setIfInBounds_toArray, List.set_cons_zero, List.set_cons_succ]
      refine hd_load 1 w.heap.size 0 (cellsB before) _ _ rfl rfl rfl (by kernel_rfl) (by kernel_rfl) (by kernel_rfl) (fun _ _ _ h => h) rfl (fun w hw => hw) under_key rfl (key_info HK.out) hS ?_
      simp only [List.getElem_toArray, List.getElem_cons_succ, List.getElem_cons_zero, Act.put, List.setIfInBounds_toArray, List.set_cons_zero, List.set_cons_succ]
      refine' (fun (HIN : ∀ (ga gb : Nat) (W4 : World), Twins w0 w W0 g (ts ++ x) ga gb W4 → (_ : Nat → Nat → World → Prop) ga gb W4) => _) _
      rotate_left
      · skip
        refine hd_three 11 15 16 (by kernel_rfl) (op_call 82 #[.pointer (some ⟨g, 0, none⟩), .agg (cellsB before).toArray, .int .i64 ((n : Int) - (k : Int)), .int .i64 ((m : Int) - (k : Int)), .slice (some ⟨b, off, none⟩) l c] rfl rfl (by go_simp) ((HC.out _ S0.b S0.t).mono ?_)) (op_run (.pointer (some ⟨W0.heap.size, 0, none⟩)) (W0.drew.alloc (.cells (cellsB zeroK).toArray 23)) rfl rfl (by rw [← HZ.out]; go_simp) ⟨HS0 _ _ (S0.on (alloc_bel _ _)), ?_⟩) (op_run (.pointer (some ⟨W0.heap.size, 0, none⟩)) (W0.drew.alloc (.cells (cellsB zeroK).toArray 23)) rfl rfl (by rw [← HZ.out]; go_simp) ⟨HS0 _ _ (S0.on (alloc_bel _ _)), ?_⟩)
        · skip
          rintro e vC ⟨rfl, htC, hkC, hbC⟩
          have SC := S0.step htC hkC hbC
          have zC := SC.z
          refine ⟨_, rfl, HS0 _ _ SC, ?_⟩
          simp only [List.getElem_toArray, List.getElem_cons_succ, List.getElem_cons_zero, Act.put, List.setIfInBounds_toArray, List.set_cons_zero, List.set_cons_succ]
          refine hd_take 12 (_) rfl rfl (by kernel_rfl) (by kernel_rfl) (by kernel_rfl) (fun _ _ _ h => h) (fun w _ => by go_simp <;> rfl) (HS0 _ _ SC) ?_
          simp only [List.getElem_toArray, List.getElem_cons_succ, List.getElem_cons_zero, Act.put, List.setIfInBounds_toArray, List.set_cons_zero, List.set_cons_succ]
          refine hd_take 13 (_) rfl rfl (by kernel_rfl) (by kernel_rfl) (by kernel_rfl) (fun _ _ _ h => h) (fun w _ => by go_simp <;> rfl) (HS0 _ _ SC) ?_
          simp only [List.getElem_toArray, List.getElem_cons_succ, List.getElem_cons_zero, Act.put, List.setIfInBounds_toArray, List.set_cons_zero, List.set_cons_succ]
          refine hd_take 14 (_) rfl rfl (by kernel_rfl) (by kernel_rfl) (by kernel_rfl) (fun _ _ _ h => h) (fun w _ => by go_simp <;> rfl) (HS0 _ _ SC) ?_
          simp only [List.getElem_toArray, List.getElem_cons_succ, List.getElem_cons_zero, Act.put, List.setIfInBounds_toArray, List.set_cons_zero, List.set_cons_succ]
          refine hd_two 15 16 (by kernel_rfl) (op_run (.pointer (some ⟨vC.heap.size, 0, none⟩)) (vC.alloc (.cells (cellsB zeroK).toArray 23)) rfl rfl (by rw [← HZ.out]; go_simp) ⟨HS0 _ _ (SC.on (alloc_bel _ _)), ?_⟩) (op_run (.pointer (some ⟨vC.heap.size, 0, none⟩)) (vC.alloc (.cells (cellsB zeroK).toArray 23)) rfl rfl (by rw [← HZ.out]; go_simp) ⟨HS0 _ _ (SC.on (alloc_bel _ _)), ?_⟩)
          · skip
            simp only [List.getElem_toArray, List.getElem_cons_succ, List.getElem_cons_zero, Act.put, List.setIfInBounds_toArray, List.set_cons_zero, List.set_cons_succ]
            have SCA := SC.on (alloc_bel vC (.cells (cellsB zeroK).toArray 23))
            have KACA : Blk (vC.alloc (.cells (cellsB zeroK).toArray 23)) (vC.heap.size) 23 (cellsB zeroK).toArray := by have h := Blk.new vC 23 (cellsB zeroK).toArray; first | exact h | simpa using h
            have yCA : W0.heap.size ≤ vC.heap.size := by have h := SC.z; first | exact h | simpa using h
            refine hd_sole 16 (by kernel_rfl) (op_run (.pointer (some ⟨vC.heap.size + 1, 0, none⟩)) ((vC.alloc (.cells (cellsB zeroK).toArray 23)).alloc (.cells (cellsB zeroK).toArray 23)) rfl rfl (by rw [← HZ.out]; go_simp) ⟨HS0 _ _ (SCA.on (alloc_bel _ _)), ?_⟩)
            simp only [List.getElem_toArray, List.getElem_cons_succ, List.getElem_cons_zero, Act.put, List.setIfInBounds_toArray, List.set_cons_zero, List.set_cons_succ]
            have SCAB := SCA.on (alloc_bel (vC.alloc (.cells (cellsB zeroK).toArray 23)) (.cells (cellsB zeroK).toArray 23))
            have KACAB := KACA.alloc (.cells (cellsB zeroK).toArray 23)
            have LACAB := KACA.lt
            have KBCAB : Blk ((vC.alloc (.cells (cellsB zeroK).toArray 23)).alloc (.cells (cellsB zeroK).toArray 23)) (vC.heap.size + 1) 23 (cellsB zeroK).toArray := by have h := Blk.new (vC.alloc (.cells (cellsB zeroK).toArray 23)) 23 (cellsB zeroK).toArray; first | exact h | simpa using h
            have yCAB : W0.heap.size ≤ vC.heap.size + 1 := by have h := SCA.z; first | exact h | simpa using h
            obtain ⟨ga, hga⟩ : ∃ k, k = vC.heap.size := ⟨_, rfl⟩
            obtain ⟨gb, hgb⟩ : ∃ k, k = vC.heap.size + 1 := ⟨_, rfl⟩
            obtain ⟨W4, hW4⟩ : ∃ V : World, V = ((vC.alloc (.cells (cellsB zeroK).toArray 23)).alloc (.cells (cellsB zeroK).toArray 23)) := ⟨_, rfl⟩
            have hpp : Twins w0 w W0 g (ts ++ x) ga gb W4 := by rw [hga, hgb, hW4]; exact ⟨SCAB, KACAB, KBCAB, by omega, by omega, by omega⟩
            rw [← hW4, ← hgb, ← hga]
            exact HIN ga gb W4 hpp
          · skip
            simp only [List.getElem_toArray, List.getElem_cons_succ, List.getElem_cons_zero, Act.put, List.setIfInBounds_toArray, List.set_cons_zero, List.set_cons_succ]
            have SCB := SC.on (alloc_bel vC (.cells (cellsB zeroK).toArray 23))
            have KBCB : Blk (vC.alloc (.cells (cellsB zeroK).toArray 23)) (vC.heap.size) 23 (cellsB zeroK).toArray := by have h := Blk.new vC 23 (cellsB zeroK).toArray; first | exact h | simpa using h
            have yCB : W0.heap.size ≤ vC.heap.size := by have h := SC.z; first | exact h | simpa using h
            refine hd_sole 15 (by kernel_rfl) (op_run (.pointer (some ⟨vC.heap.size + 1, 0, none⟩)) ((vC.alloc (.cells (cellsB zeroK).toArray 23)).alloc (.cells (cellsB zeroK).toArray 23)) rfl rfl (by rw [← HZ.out]; go_simp) ⟨HS0 _ _ (SCB.on (alloc_bel _ _)), ?_⟩)
            simp only [List.getElem_toArray, List.getElem_cons_succ, List.getElem_cons_zero, Act.put, List.setIfInBounds_toArray, List.set_cons_zero, List.set_cons_succ]
            have SCBA := SCB.on (alloc_bel (vC.alloc (.cells (cellsB zeroK).toArray 23)) (.cells (cellsB zeroK).toArray 23))
            have KBCBA := KBCB.alloc (.cells (cellsB zeroK).toArray 23)
            have LBCBA := KBCB.lt
            have KACBA : Blk ((vC.alloc (.cells (cellsB zeroK).toArray 23)).alloc (.cells (cellsB zeroK).toArray 23)) (vC.heap.size + 1) 23 (cellsB zeroK).toArray := by have h := Blk.new (vC.alloc (.cells (cellsB zeroK).toArray 23)) 23 (cellsB zeroK).toArray; first | exact h | simpa using h
            have yCBA : W0.heap.size ≤ vC.heap.size + 1 := by have h := SCB.z; first | exact h | simpa using h
            obtain ⟨ga, hga⟩ : ∃ k, k = vC.heap.size + 1 := ⟨_, rfl⟩
            obtain ⟨gb, hgb⟩ : ∃ k, k = vC.heap.size := ⟨_, rfl⟩
            obtain ⟨W4, hW4⟩ : ∃ V : World, V = ((vC.alloc (.cells (cellsB zeroK).toArray 23)).alloc (.cells (cellsB zeroK).toArray 23)) := ⟨_, rfl⟩
            have hpp : Twins w0 w W0 g (ts ++ x) ga gb W4 := by rw [hga, hgb, hW4]; exact ⟨SCBA, KACBA, KBCBA, by omega, by omega, by omega⟩
            rw [← hW4, ← hga, ← hgb]
            exact HIN ga gb W4 hpp
        · skip
          simp only [List.getElem_toArray, List.getElem_cons_succ, List.getElem_cons_zero, Act.put, List.setIfInBounds_toArray, List.set_cons_zero, List.set_cons_succ]
          have SA := S0.on (alloc_bel W0.drew (.cells (cellsB zeroK).toArray 23))
          have KAA : Blk (W0.drew.alloc (.cells (cellsB zeroK).toArray 23)) (W0.heap.size) 23 (cellsB zeroK).toArray := by have h := Blk.new W0.drew 23 (cellsB zeroK).toArray; first | exact h | simpa using h
          have yA : W0.heap.size ≤ W0.heap.size := by have h := S0.z; first | exact h | simpa using h
          refine hd_two 11 16 (by kernel_rfl) (op_call 82 #[.pointer (some ⟨g, 0, none⟩), .agg (cellsB before).toArray, .int .i64 ((n : Int) - (k : Int)), .int .i64 ((m : Int) - (k : Int)), .slice (some ⟨b, off, none⟩) l c] rfl rfl (by go_simp) ((HC.out _ SA.b SA.t).mono ?_)) (op_run (.pointer (some ⟨W0.heap.size + 1, 0, none⟩)) ((W0.drew.alloc (.cells (cellsB zeroK).toArray 23)).alloc (.cells (cellsB zeroK).toArray 23)) rfl rfl (by rw [← HZ.out]; go_simp) ⟨HS0 _ _ (SA.on (alloc_bel _ _)), ?_⟩)
          · skip
            rintro e vAC ⟨rfl, htAC, hkAC, hbAC⟩
            have SAC := SA.step htAC hkAC hbAC
            have zAC := SAC.z
            have KAAC := hkAC _ _ KAA
            have LAAC := KAAC.lt
            refine ⟨_, rfl, HS0 _ _ SAC, ?_⟩
            simp only [List.getElem_toArray, List.getElem_cons_succ, List.getElem_cons_zero, Act.put, List.setIfInBounds_toArray, List.set_cons_zero, List.set_cons_succ]
            refine hd_take 12 (_) rfl rfl (by kernel_rfl) (by kernel_rfl) (by kernel_rfl) (fun _ _ _ h => h) (fun w _ => by go_simp <;> rfl) (HS0 _ _ SAC) ?_
            simp only [List.getElem_toArray, List.getElem_cons_succ, List.getElem_cons_zero, Act.put, List.setIfInBounds_toArray, List.set_cons_zero, List.set_cons_succ]
            refine hd_take 13 (_) rfl rfl (by kernel_rfl) (by kernel_rfl) (by kernel_rfl) (fun _ _ _ h => h) (fun w _ => by go_simp <;> rfl) (HS0 _ _ SAC) ?_
            simp only [List.getElem_toArray, List.getElem_cons_succ, List.getElem_cons_zero, Act.put, List.setIfInBounds_toArray, List.set_cons_zero, List.set_cons_succ]
            refine hd_take 14 (_) rfl rfl (by kernel_rfl) (by kernel_rfl) (by kernel_rfl) (fun _ _ _ h => h) (fun w _ => by go_simp <;> rfl) (HS0 _ _ SAC) ?_
            simp only [List.getElem_toArray, List.getElem_cons_succ, List.getElem_cons_zero, Act.put, List.setIfInBounds_toArray, List.set_cons_zero, List.set_cons_succ]
            refine hd_sole 16 (by kernel_rfl) (op_run (.pointer (some ⟨vAC.heap.size, 0, none⟩)) (vAC.alloc (.cells (cellsB zeroK).toArray 23)) rfl rfl (by rw [← HZ.out]; go_simp) ⟨HS0 _ _ (SAC.on (alloc_bel _ _)), ?_⟩)
            simp only [List.getElem_toArray, List.getElem_cons_succ, List.getElem_cons_zero, Act.put, List.setIfInBounds_toArray, List.set_cons_zero, List.set_cons_succ]
            have SACB := SAC.on (alloc_bel vAC (.cells (cellsB zeroK).toArray 23))
            have KAACB := KAAC.alloc (.cells (cellsB zeroK).toArray 23)
            have LAACB := KAAC.lt
            have KBACB : Blk (vAC.alloc (.cells (cellsB zeroK).toArray 23)) (vAC.heap.size) 23 (cellsB zeroK).toArray := by have h := Blk.new vAC 23 (cellsB zeroK).toArray; first | exact h | simpa using h
            have yACB : W0.heap.size ≤ vAC.heap.size := by have h := SAC.z; first | exact h | simpa using h
            obtain ⟨ga, hga⟩ : ∃ k, k = W0.heap.size := ⟨_, rfl⟩
            obtain ⟨gb, hgb⟩ : ∃ k, k = vAC.heap.size := ⟨_, rfl⟩
            obtain ⟨W4, hW4⟩ : ∃ V : World, V = (vAC.alloc (.cells (cellsB zeroK).toArray 23)) := ⟨_, rfl⟩
            have hpp : Twins w0 w W0 g (ts ++ x) ga gb W4 := by rw [hga, hgb, hW4]; exact ⟨SACB, KAACB, KBACB, by omega, by omega, by omega⟩
            rw [← hW4, ← hgb, ← hga]
            exact HIN ga gb W4 hpp
          · skip
            simp only [List.getElem_toArray, List.getElem_cons_succ, List.getElem_cons_zero, Act.put, List.setIfInBounds_toArray, List.set_cons_zero, List.set_cons_succ]
            have SAB := SA.on (alloc_bel (W0.drew.alloc (.cells (cellsB zeroK).toArray 23)) (.cells (cellsB zeroK).toArray 23))
            have KAAB := KAA.alloc (.cells (cellsB zeroK).toArray 23)
            have LAAB := KAA.lt
            have KBAB : Blk ((W0.drew.alloc (.cells (cellsB zeroK).toArray 23)).alloc (.cells (cellsB zeroK).toArray 23)) (W0.heap.size + 1) 23 (cellsB zeroK).toArray := by have h := Blk.new (W0.drew.alloc (.cells (cellsB zeroK).toArray 23)) 23 (cellsB zeroK).toArray; first | exact h | simpa using h
            have yAB : W0.heap.size ≤ W0.heap.size + 1 := by have h := SA.z; first | exact h | simpa using h
            refine hd_sole 11 (by kernel_rfl) (op_call 82 #[.pointer (some ⟨g, 0, none⟩), .agg (cellsB before).toArray, .int .i64 ((n : Int) - (k : Int)), .int .i64 ((m : Int) - (k : Int)), .slice (some ⟨b, off, none⟩) l c] rfl rfl (by go_simp) ((HC.out _ SAB.b SAB.t).mono ?_))
            rintro e vABC ⟨rfl, htABC, hkABC, hbABC⟩
            have SABC := SAB.step htABC hkABC hbABC
            have zABC := SABC.z
            have KAABC := hkABC _ _ KAAB
            have LAABC := KAABC.lt
            have KBABC := hkABC _ _ KBAB
            have LBABC := KBABC.lt
            refine ⟨_, rfl, HS0 _ _ SABC, ?_⟩
            simp only [List.getElem_toArray, List.getElem_cons_succ, List.getElem_cons_zero, Act.put, List.setIfInBounds_toArray, List.set_cons_zero, List.set_cons_succ]
            refine hd_take 12 (_) rfl rfl (by kernel_rfl) (by kernel_rfl) (by kernel_rfl) (fun _ _ _ h => h) (fun w _ => by go_simp <;> rfl) (HS0 _ _ SABC) ?_
            simp only [List.getElem_toArray, List.getElem_cons_succ, List.getElem_cons_zero, Act.put, List.setIfInBounds_toArray, List.set_cons_zero, List.set_cons_succ]
            refine hd_take 13 (_) rfl rfl (by kernel_rfl) (by kernel_rfl) (by kernel_rfl) (fun _ _ _ h => h) (fun w _ => by go_simp <;> rfl) (HS0 _ _ SABC) ?_
            simp only [List.getElem_toArray, List.getElem_cons_succ, List.getElem_cons_zero, Act.put, List.setIfInBounds_toArray, List.set_cons_zero, List.set_cons_succ]
            refine hd_take 14 (_) rfl rfl (by kernel_rfl) (by kernel_rfl) (by kernel_rfl) (fun _ _ _ h => h) (fun w _ => by go_simp <;> rfl) (HS0 _ _ SABC) ?_
            simp only [List.getElem_toArray, List.getElem_cons_succ, List.getElem_cons_zero, Act.put, List.setIfInBounds_toArray, List.set_cons_zero, List.set_cons_succ]
            obtain ⟨ga, hga⟩ : ∃ k, k = W0.heap.size := ⟨_, rfl⟩
            obtain ⟨gb, hgb⟩ : ∃ k, k = W0.heap.size + 1 := ⟨_, rfl⟩
            obtain ⟨W4, hW4⟩ : ∃ V : World, V = vABC := ⟨_, rfl⟩
            have hpp : Twins w0 w W0 g (ts ++ x) ga gb W4 := by rw [hga, hgb, hW4]; exact ⟨SABC, KAABC, KBABC, by omega, by omega, by omega⟩
            rw [← hW4, ← hgb, ← hga]
            exact HIN ga gb W4 hpp
        · skip
          simp only [List.getElem_toArray, List.getElem_cons_succ, List.getElem_cons_zero, Act.put, List.setIfInBounds_toArray, List.set_cons_zero, List.set_cons_succ]
          have SB := S0.on (alloc_bel W0.drew (.cells (cellsB zeroK).toArray 23))
          have KBB : Blk (W0.drew.alloc (.cells (cellsB zeroK).toArray 23)) (W0.heap.size) 23 (cellsB zeroK).toArray := by have h := Blk.new W0.drew 23 (cellsB zeroK).toArray; first | exact h | simpa using h
          have yB : W0.heap.size ≤ W0.heap.size := by have h := S0.z; first | exact h | simpa using h
          refine hd_two 11 15 (by kernel_rfl) (op_call 82 #[.pointer (some ⟨g, 0, none⟩), .agg (cellsB before).toArray, .int .i64 ((n : Int) - (k : Int)), .int .i64 ((m : Int) - (k : Int)), .slice (some ⟨b, off, none⟩) l c] rfl rfl (by go_simp) ((HC.out _ SB.b SB.t).mono ?_)) (op_run (.pointer (some ⟨W0.heap.size + 1, 0, none⟩)) ((W0.drew.alloc (.cells (cellsB zeroK).toArray 23)).alloc (.cells (cellsB zeroK).toArray 23)) rfl rfl (by rw [← HZ.out]; go_simp) ⟨HS0 _ _ (SB.on (alloc_bel _ _)), ?_⟩)
          · skip
            rintro e vBC ⟨rfl, htBC, hkBC, hbBC⟩
            have SBC := SB.step htBC hkBC hbBC
            have zBC := SBC.z
            have KBBC := hkBC _ _ KBB
            have LBBC := KBBC.lt
            refine ⟨_, rfl, HS0 _ _ SBC, ?_⟩
            simp only [List.getElem_toArray, List.getElem_cons_succ, List.getElem_cons_zero, Act.put, List.setIfInBounds_toArray, List.set_cons_zero, List.set_cons_succ]
            refine hd_take 12 (_) rfl rfl (by kernel_rfl) (by kernel_rfl) (by kernel_rfl) (fun _ _ _ h => h) (fun w _ => by go_simp <;> rfl) (HS0 _ _ SBC) ?_
            simp only [List.getElem_toArray, List.getElem_cons_succ, List.getElem_cons_zero, Act.put, List.setIfInBounds_toArray, List.set_cons_zero, List.set_cons_succ]
            refine hd_take 13 (_) rfl rfl (by kernel_rfl) (by kernel_rfl) (by kernel_rfl) (fun _ _ _ h => h) (fun w _ => by go_simp <;> rfl) (HS0 _ _ SBC) ?_
            simp only [List.getElem_toArray, List.getElem_cons_succ, List.getElem_cons_zero, Act.put, List.setIfInBounds_toArray, List.set_cons_zero, List.set_cons_succ]
            refine hd_take 14 (_) rfl rfl (by kernel_rfl) (by kernel_rfl) (by kernel_rfl) (fun _ _ _ h => h) (fun w _ => by go_simp <;> rfl) (HS0 _ _ SBC) ?_
            simp only [List.getElem_toArray, List.getElem_cons_succ, List.getElem_cons_zero, Act.put, List.setIfInBounds_toArray, List.set_cons_zero, List.set_cons_succ]
            refine hd_sole 15 (by kernel_rfl) (op_run (.pointer (some ⟨vBC.heap.size, 0, none⟩)) (vBC.alloc (.cells (cellsB zeroK).toArray 23)) rfl rfl (by rw [← HZ.out]; go_simp) ⟨HS0 _ _ (SBC.on (alloc_bel _ _)), ?_⟩)
            simp only [List.getElem_toArray, List.getElem_cons_succ, List.getElem_cons_zero, Act.put, List.setIfInBounds_toArray, List.set_cons_zero, List.set_cons_succ]
            have SBCA := SBC.on (alloc_bel vBC (.cells (cellsB zeroK).toArray 23))
            have KBBCA := KBBC.alloc (.cells (cellsB zeroK).toArray 23)
            have LBBCA := KBBC.lt
            have KABCA : Blk (vBC.alloc (.cells (cellsB zeroK).toArray 23)) (vBC.heap.size) 23 (cellsB zeroK).toArray := by have h := Blk.new vBC 23 (cellsB zeroK).toArray; first | exact h | simpa using h
            have yBCA : W0.heap.size ≤ vBC.heap.size := by have h := SBC.z; first | exact h | simpa using h
            obtain ⟨ga, hga⟩ : ∃ k, k = vBC.heap.size := ⟨_, rfl⟩
            obtain ⟨gb, hgb⟩ : ∃ k, k = W0.heap.size := ⟨_, rfl⟩
            obtain ⟨W4, hW4⟩ : ∃ V : World, V = (vBC.alloc (.cells (cellsB zeroK).toArray 23)) := ⟨_, rfl⟩
            have hpp : Twins w0 w W0 g (ts ++ x) ga gb W4 := by rw [hga, hgb, hW4]; exact ⟨SBCA, KABCA, KBBCA, by omega, by omega, by omega⟩
            rw [← hW4, ← hga, ← hgb]
            exact HIN ga gb W4 hpp
          · skip
            simp only [List.getElem_toArray, List.getElem_cons_succ, List.getElem_cons_zero, Act.put, List.setIfInBounds_toArray, List.set_cons_zero, List.set_cons_succ]
            have SBA := SB.on (alloc_bel (W0.drew.alloc (.cells (cellsB zeroK).toArray 23)) (.cells (cellsB zeroK).toArray 23))
            have KBBA := KBB.alloc (.cells (cellsB zeroK).toArray 23)
            have LBBA := KBB.lt
            have KABA : Blk ((W0.drew.alloc (.cells (cellsB zeroK).toArray 23)).alloc (.cells (cellsB zeroK).toArray 23)) (W0.heap.size + 1) 23 (cellsB zeroK).toArray := by have h := Blk.new (W0.drew.alloc (.cells (cellsB zeroK).toArray 23)) 23 (cellsB zeroK).toArray; first | exact h | simpa using h
            have yBA : W0.heap.size ≤ W0.heap.size + 1 := by have h := SB.z; first | exact h | simpa using h
            refine hd_sole 11 (by kernel_rfl) (op_call 82 #[.pointer (some ⟨g, 0, none⟩), .agg (cellsB before).toArray, .int .i64 ((n : Int) - (k : Int)), .int .i64 ((m : Int) - (k : Int)), .slice (some ⟨b, off, none⟩) l c] rfl rfl (by go_simp) ((HC.out _ SBA.b SBA.t).mono ?_))
            rintro e vBAC ⟨rfl, htBAC, hkBAC, hbBAC⟩
            have SBAC := SBA.step htBAC hkBAC hbBAC
            have zBAC := SBAC.z
            have KBBAC := hkBAC _ _ KBBA
            have LBBAC := KBBAC.lt
            have KABAC := hkBAC _ _ KABA
            have LABAC := KABAC.lt
            refine ⟨_, rfl, HS0 _ _ SBAC, ?_⟩
            simp only [List.getElem_toArray, List.getElem_cons_succ, List.getElem_cons_zero, Act.put, List.setIfInBounds_toArray, List.set_cons_zero, List.set_cons_succ]
            refine hd_take 12 (_) rfl rfl (by kernel_rfl) (by kernel_rfl) (by kernel_rfl) (fun _ _ _ h => h) (fun w _ => by go_simp <;> rfl) (HS0 _ _ SBAC) ?_
            simp only [List.getElem_toArray, List.getElem_cons_succ, List.getElem_cons_zero, Act.put, List.setIfInBounds_toArray, List.set_cons_zero, List.set_cons_succ]
            refine hd_take 13 (_) rfl rfl (by kernel_rfl) (by kernel_rfl) (by kernel_rfl) (fun _ _ _ h => h) (fun w _ => by go_simp <;> rfl) (HS0 _ _ SBAC) ?_
            simp only [List.getElem_toArray, List.getElem_cons_succ, List.getElem_cons_zero, Act.put, List.setIfInBounds_toArray, List.set_cons_zero, List.set_cons_succ]
            refine hd_take 14 (_) rfl rfl (by kernel_rfl) (by kernel_rfl) (by kernel_rfl) (fun _ _ _ h => h) (fun w _ => by go_simp <;> rfl) (HS0 _ _ SBAC) ?_
            simp only [List.getElem_toArray, List.getElem_cons_succ, List.getElem_cons_zero, Act.put, List.setIfInBounds_toArray, List.set_cons_zero, List.set_cons_succ]
            obtain ⟨ga, hga⟩ : ∃ k, k = W0.heap.size + 1 := ⟨_, rfl⟩
            obtain ⟨gb, hgb⟩ : ∃ k, k = W0.heap.size := ⟨_, rfl⟩
            obtain ⟨W4, hW4⟩ : ∃ V : World, V = vBAC := ⟨_, rfl⟩
            have hpp : Twins w0 w W0 g (ts ++ x) ga gb W4 := by rw [hga, hgb, hW4]; exact ⟨SBAC, KABAC, KBBAC, by omega, by omega, by omega⟩
            rw [← hW4, ← hga, ← hgb]
            exact HIN ga gb W4 hpp
      · skip
        intro ga gb W4 hpp
        obtain ⟨ST, BA, BB, hne, hga, hgb⟩ := hpp
        have hSa := HS0 _ _ ST
        have hSb := range_setRow hSa (g' := ga) (by omega) (cellsB p).toArray
        refine hd_store 17 ga (cellsB p).toArray _ _ _ rfl rfl rfl (by kernel_rfl) rfl rfl BA (cellsB_size _ HPL.out) (by rw [List.size_toArray, List.size_toArray, cellsB_length, cellsB_length, HPL.out]; rfl) (all_oneCell_toArray (cells_one p)) hSb ?_
        have BB1 := BB.row_ne (g' := ga) (cs' := (cellsB p).toArray) (Ne.symm hne)
        have hSc := range_setRow hSb (g' := gb) (by omega) (cellsB q).toArray
        refine hd_store 18 gb (cellsB q).toArray _ _ _ rfl rfl rfl (by kernel_rfl) rfl rfl BB1 (cellsB_size _ HQL.out) (by rw [List.size_toArray, List.size_toArray, cellsB_length, cellsB_length, HQL.out]; rfl) (all_oneCell_toArray (cells_one q)) hSc ?_
        refine wpAnyH_done (by kernel_rfl) (NoPanic.normal ?_) _
        simp only [List.getElem_toArray, List.getElem_cons_succ, List.getElem_cons_zero, Act.put, List.setIfInBounds_toArray, List.set_cons_zero, List.set_cons_succ]
        have SF := (ST.row BA hga hz0 (cellsB p).toArray).row BB1 hgb hz0 (cellsB q).toArray
        have BAF := (BA.setRow (cellsB p).toArray).row_ne (g' := gb) (cs' := (cellsB q).toArray) hne
        have BBF := BB1.setRow (cellsB q).toArray
        generalize (W4.setRow ga (cellsB p).toArray).setRow gb (cellsB q).toArray = W5 at SF BAF BBF ⊢
        clear hSa hSb hSc ST BA BB BB1 S0
        have SF := Lib.hid SF
        go_wp2_with fail
        refine wp_region_noPanic ?_
        have SD := SF.out.on (Below.refl _ _).drew
        have BAD := BAF.drew
        have BBD := BBF.drew
        refine wp_region_held_drew (S := fun w' => w'.rangeAt b (off + l * 16) (cellsB h0)) (by kernel_rfl) (HR.out _ SD.b) (fun hS => ?_)
        refine hd_take 0 (_) rfl rfl (by kernel_rfl) (by kernel_rfl) (by kernel_rfl) (fun _ _ _ h => h) (fun w _ => by go_simp <;> rfl) hS ?_
        refine hd_take 1 (_) rfl rfl (by kernel_rfl) (by kernel_rfl) (by kernel_rfl) (fun _ _ _ h => h) (fun w _ => by go_simp <;> rfl) hS ?_
        refine hd_take 2 (_) rfl rfl (by kernel_rfl) (by kernel_rfl) (by kernel_rfl) (fun _ _ _ h => h) (fun w _ => by go_simp <;> rfl) hS ?_
        simp only [List.getElem_toArray, List.getElem_cons_succ, List.getElem_cons_zero, Act.put, List.setIfInBounds_toArray, List.set_cons_zero, List.set_cons_succ]
        refine hd_take 3 (_) rfl rfl (by kernel_rfl) (by kernel_rfl) (by kernel_rfl) (fun _ _ _ h => h) (fun w _ => by go_simp <;> rfl) hS ?_
        simp only [List.getElem_toArray, List.getElem_cons_succ, List.getElem_cons_zero, Act.put, List.setIfInBounds_toArray, List.set_cons_zero, List.set_cons_succ]
        refine hd_load 4 b (off + l * 16) (cellsB h0) _ _ rfl rfl rfl (by kernel_rfl) (by kernel_rfl) (by kernel_rfl) (fun _ _ _ h => h) rfl (fun w hw => hw) under_key rfl (key_info HH.out) hS ?_
        refine hd_sole 5 (by kernel_rfl) (op_load_mid 5 ga 0 (cellsB p) 23 (.tmp 16) rfl rfl rfl rfl BAD.range under_key rfl (info16 ((cellsB_length p).trans HPL.out)) ⟨hS, ?_⟩)
        simp only [List.getElem_toArray, List.getElem_cons_succ, List.getElem_cons_zero, Act.put, List.setIfInBounds_toArray, List.set_cons_zero, List.set_cons_succ]
        refine hd_calls 6 68 #[.agg (cellsB h0).toArray, .agg (cellsB p).toArray] rfl rfl (by kernel_rfl) (by go_simp) ((HNT1.out _).mono ?_)
        rintro e u1 ⟨⟨A1, c1, rfl, ho1⟩, hb1⟩
        have SN1 := SD.on hb1
        have Pn1 := BAD.below' hb1
        have Qn1 := BBD.below' hb1
        have on1 := ho1.le_ SD.b.size
        refine ⟨_, rfl, HR.out _ SN1.b, ?_⟩
        simp only [List.getElem_toArray, List.getElem_cons_succ, List.getElem_cons_zero, Act.put, List.setIfInBounds_toArray, List.set_cons_zero, List.set_cons_succ]
        refine hd_calls 7 65 #[.pointer (some ⟨g, 0, none⟩), .slice A1 33 c1] rfl rfl (by kernel_rfl) (by go_simp) ((HTK1.out _ _ _ SN1.t on1).mono ?_)
        rintro e x1 ⟨rfl, ht1, hk1, hc1⟩
        have SM1 := SN1.step ht1 hk1 hc1
        have Pm1 := hk1 _ _ Pn1
        have Qm1 := hk1 _ _ Qn1
        refine ⟨_, rfl, HR.out _ SM1.b, ?_⟩
        simp only [List.getElem_toArray, List.getElem_cons_succ, List.getElem_cons_zero, Act.put, List.setIfInBounds_toArray, List.set_cons_zero, List.set_cons_succ]
        have hS8 := range_setRow (HR.out _ SM1.b) (g' := ga) (by have := HBW.out; omega) (cellsB d1).toArray
        refine hd_store 8 ga (cellsB d1).toArray _ _ _ rfl rfl rfl (by kernel_rfl) rfl rfl Pm1 (cellsB_size _ HDL1.out) (by rw [List.size_toArray, List.size_toArray, cellsB_length, cellsB_length, HDL1.out, HPL.out]) (all_oneCell_toArray (cells_one d1)) hS8 ?_
        refine wpAnyH_done (by kernel_rfl) (NoPanic.normal ?_) _
        simp only [List.getElem_toArray, List.getElem_cons_succ, List.getElem_cons_zero, Act.put, List.setIfInBounds_toArray, List.set_cons_zero, List.set_cons_succ]
        have SG := Lib.hid (SM1.row Pm1 hga hz0 (cellsB d1).toArray)
        have BAG := Pm1.setRow (cellsB d1).toArray
        have BBG := Qm1.row_ne (g' := ga) (cs' := (cellsB d1).toArray) (Ne.symm hne)
        generalize x1.setRow ga (cellsB d1).toArray = W6 at SG BAG BBG ⊢
        clear hS hS8
        go_wp2_with fail
        refine wp_region_noPanic ?_
        have SD2 := SG.out.on (Below.refl _ _).drew
        have BAD2 := BAG.drew
        have BBD2 := BBG.drew
        refine wp_region_held_drew (S := fun w' => w'.rangeAt ga 0 (cellsB d1) ∧ w'.rangeAt gb 0 (cellsB q) ∧ w'.rangeAt b (off + l * 16) (cellsB h0)) (by kernel_rfl) ⟨BAD2.range, BBD2.range, HR.out _ SD2.b⟩ (fun hS2 => ?_)
        refine hd_take 1 (_) rfl rfl (by kernel_rfl) (by kernel_rfl) (by kernel_rfl) (fun _ _ _ h => h) (fun w _ => by go_simp <;> rfl) hS2 ?_
        refine hd_take 2 (_) rfl rfl (by kernel_rfl) (by kernel_rfl) (by kernel_rfl) (fun _ _ _ h => h) (fun w _ => by go_simp <;> rfl) hS2 ?_
        refine hd_take 3 (_) rfl rfl (by kernel_rfl) (by kernel_rfl) (by kernel_rfl) (fun _ _ _ h => h) (fun w _ => by go_simp <;> rfl) hS2 ?_
        simp only [List.getElem_toArray, List.getElem_cons_succ, List.getElem_cons_zero, Act.put, List.setIfInBounds_toArray, List.set_cons_zero, List.set_cons_succ]
        refine hd_take 4 (_) rfl rfl (by kernel_rfl) (by kernel_rfl) (by kernel_rfl) (fun _ _ _ h => h) (fun w _ => by go_simp <;> rfl) hS2 ?_
        simp only [List.getElem_toArray, List.getElem_cons_succ, List.getElem_cons_zero, Act.put, List.setIfInBounds_toArray, List.set_cons_zero, List.set_cons_succ]
        refine hd_load 0 ga 0 (cellsB d1) _ _ rfl rfl rfl (by kernel_rfl) (by kernel_rfl) (by kernel_rfl) (fun _ _ _ h => h) rfl (fun w hw => hw.1) under_key rfl (key_info HDL1.out) hS2 ?_
        refine hd_load 6 gb 0 (cellsB q) _ _ rfl rfl rfl (by kernel_rfl) (by kernel_rfl) (by kernel_rfl) (fun _ _ _ h => h) rfl (fun w hw => hw.2.1) under_key rfl (key_info HQL.out) hS2 ?_
        refine hd_load 5 b (off + l * 16) (cellsB h0) _ _ rfl rfl rfl (by kernel_rfl) (by kernel_rfl) (by kernel_rfl) (fun _ _ _ h => h) rfl (fun w hw => hw.2.2) under_key rfl (key_info HH.out) hS2 ?_
        simp only [List.getElem_toArray, List.getElem_cons_succ, List.getElem_cons_zero, Act.put, List.setIfInBounds_toArray, List.set_cons_zero, List.set_cons_succ]
        refine hd_calls 7 68 #[.agg (cellsB h0).toArray, .agg (cellsB q).toArray] rfl rfl (by kernel_rfl) (by go_simp) ((HNT2.out _).mono ?_)
        rintro e u2 ⟨⟨A2, c2, rfl, ho2⟩, hb2⟩
        have SN2 := SD2.on hb2
        have Pn2 := BAD2.below' hb2
        have Qn2 := BBD2.below' hb2
        have on2 := ho2.le_ SD2.b.size
        refine ⟨_, rfl, ⟨Pn2.range, Qn2.range, HR.out _ SN2.b⟩, ?_⟩
        simp only [List.getElem_toArray, List.getElem_cons_succ, List.getElem_cons_zero, Act.put, List.setIfInBounds_toArray, List.set_cons_zero, List.set_cons_succ]
        refine hd_calls 8 65 #[.pointer (some ⟨g, 0, none⟩), .slice A2 33 c2] rfl rfl (by kernel_rfl) (by go_simp) ((HTK2.out _ _ _ SN2.t on2).mono ?_)
        rintro e x2 ⟨rfl, ht2, hk2, hc2⟩
        have SM2 := SN2.step ht2 hk2 hc2
        have Pm2 := hk2 _ _ Pn2
        have Qm2 := hk2 _ _ Qn2
        refine ⟨_, rfl, ⟨Pm2.range, Qm2.range, HR.out _ SM2.b⟩, ?_⟩
        simp only [List.getElem_toArray, List.getElem_cons_succ, List.getElem_cons_zero, Act.put, List.setIfInBounds_toArray, List.set_cons_zero, List.set_cons_succ]
        have hS9 := And.intro Pm2.range (And.intro Qm2.range (HR.out _ SM2.b))
        have E1 := SM2.k _ _ B1.out
        have E2 := SM2.k _ _ B2.out
        have hSx := And.intro (range_setRow hS9.1 (g' := w.heap.size + 1) (by omega) (cellsB d1).toArray) (And.intro (range_setRow hS9.2.1 (g' := w.heap.size + 1) (by omega) (cellsB d1).toArray) (range_setRow hS9.2.2 (g' := w.heap.size + 1) (by have := HBW.out; omega) (cellsB d1).toArray))
        refine hd_store 9 (w.heap.size + 1) (cellsB d1).toArray _ _ _ rfl rfl rfl (by kernel_rfl) rfl rfl E1 (cellsB_size _ HDL1.out) (by rw [List.size_toArray, List.size_toArray, cellsB_length, cellsB_length, HDL1.out]; rfl) (all_oneCell_toArray (cells_one d1)) hSx ?_
        have E2' := E2.row_ne (g' := w.heap.size + 1) (cs' := (cellsB d1).toArray) (by omega)
        have hSy := And.intro (range_setRow hSx.1 (g' := w.heap.size + 1 + 1) (by omega) (cellsB d2).toArray) (And.intro (range_setRow hSx.2.1 (g' := w.heap.size + 1 + 1) (by omega) (cellsB d2).toArray) (range_setRow hSx.2.2 (g' := w.heap.size + 1 + 1) (by have := HBW.out; omega) (cellsB d2).toArray))
        refine hd_store 10 (w.heap.size + 1 + 1) (cellsB d2).toArray _ _ _ rfl rfl rfl (by kernel_rfl) rfl rfl E2' (cellsB_size _ HDL2.out) (by rw [List.size_toArray, List.size_toArray, cellsB_length, cellsB_length, HDL2.out]; rfl) (all_oneCell_toArray (cells_one d2)) hSy ?_
        refine wpAnyH_done (by kernel_rfl) (NoPanic.normal ?_) _
        simp only [List.getElem_toArray, List.getElem_cons_succ, List.getElem_cons_zero, Act.put, List.setIfInBounds_toArray, List.set_cons_zero, List.set_cons_succ]
        have F1 := Lib.hid ((E1.setRow (cellsB d1).toArray).row_ne (g' := w.heap.size + 1 + 1) (cs' := (cellsB d2).toArray) (by omega))
        have F2 := Lib.hid (E2'.setRow (cellsB d2).toArray)
        have FT := Lib.hid ((SM2.t.row E1 (cellsB d1).toArray).row E2' (cellsB d2).toArray)
        have FK := Lib.hid ((((KeepT.of_below b0).trans SM2.k).rowAbove (g := w.heap.size + 1) (by omega) (cellsB d1).toArray).rowAbove (g := w.heap.size + 1 + 1) (by omega) (cellsB d2).toArray)
        have FB := Lib.hid (below_setRow (below_setRow SM2.a (g := w.heap.size + 1) (by omega) (cellsB d1).toArray) (g := w.heap.size + 1 + 1) (by omega) (cellsB d2).toArray)
        clear hSx hSy E1 E2 E2' hS2 hS9
        go_wp2_with fail
        refine bodyPost_ret (v := .tuple #[.agg (cellsB d1).toArray, .agg (cellsB d2).toArray]) ?_ rfl ⟨rfl, by have h := FT.out; simpa only [List.append_assoc, List.cons_append, List.nil_append] using h, FK.out, FB.out⟩
        rw [results_cell2 Try.results82]
        simp [asAddr, Result.andThen, run_loadVar_row _ (w.heap.size + 1) _ _ _ (0, 0) _ F1.out under_key rfl (cellsB_size _ HDL1.out), run_loadVar_row _ (w.heap.size + 1 + 1) _ _ _ (0, 0) _ F2.out under_key rfl (cellsB_size _ HDL2.out)]
end Go.Proofs.Ytinpiodfpnbllaa

/- Texts: the program's; texts that were returned. -/
namespace Go.Proofs.Ytinpiodfpnbllaa
open Go.RowKit
set_option linter.unusedVariables false
set_option linter.unusedSimpArgs false

/-- Texts that are returned, with an error. -/
def TxEnd (ts : List (List UInt8)) (e0 : Int) (e : Ending) (w' : World) : Prop := ∃ A c rs, e = .returned (.tuple #[.slice A rs.length c, .int .i64 e0]) ∧ rs.map BRow.l = ts ∧ RR w' A c rs
def textsR (ks : List (List UInt8)) : List (List UInt8) × Int := if 128 < ks.length then ([], 4) else (textsS ks, 0)
theorem RR.nil (w : World) : RR w none 0 [] := ⟨Rd.nil w 1, by simp⟩
theorem TX.rr {B : Nat} {w : World} {g : Nat} {ts : List (List UInt8)} (h : TX B w g ts) (hl : ts.length ≤ 100000) : ∃ A c rs, w.cell? ⟨g, 0, none⟩ = some (.slice A rs.length c) ∧ rs.map BRow.l = ts ∧ RR w A c rs := by
  obtain ⟨A, c, rs, h1, h2, h3, h4, h5, h6⟩ := h
  have hrl : rs.length ≤ 100000 := by rw [← List.length_map (f := BRow.l), h1]; exact hl
  refine ⟨A, c, rs, h3.cell 0, h1, h4.rr (by omega) fun r hr => (h5 r hr).br ?_⟩
  have := h6 r.l (by rw [← h1]; exact List.mem_map.2 ⟨r, hr, rfl⟩)
  omega
theorem TX.new (w : World) : TX w.heap.size (w.alloc (.cells #[.slice none 0 0] 119)) w.heap.size [] :=
  ⟨none, 0, [], rfl, Nat.le_refl _, Blk.new w _ _, RO.nil _ _, by simp, by simp⟩

set_option maxHeartbeats 1000000 in
set_option maxRecDepth 100000 in
theorem Texts_any (ks : List (List UInt8)) (A : Option Addr) (c : Nat) (w : World) {n : Nat} (hn : ks.length = n) (h : KR w A c ks) :
    Calls Try.prog 17 #[.slice A n c] w fun e w' => TxEnd (textsR ks).1 (textsR ks).2 e w' ∧ Below w.heap.size w w' := by
  have hnl : (n : Int) ≤ 140737488351232 := by have := h.len; omega
  rcases (by omega : 128 < n ∨ n = 0 ∨ (1 ≤ n ∧ n ≤ 128)) with hw | rfl | ⟨h1, hw⟩
  · have HS : Hid (textsR ks = ([], 4)) := by unfold Hid textsR; rw [if_pos (by omega)]
    have hbi : (128 : Int) < n := by omega
    clear hn h hw
    go_enter Try.func17, Try.ntmps17
    go_wp2
    go_ret2
    rw [HS.out]
    exact ⟨⟨none, 0, [], rfl, rfl, RR.nil _⟩, Below.refl _ _⟩
  · have HS : Hid (textsR ks = ([[]], 0)) := by unfold Hid textsR; rw [if_neg (by omega), List.eq_nil_of_length_eq_zero hn, textsS_nil]
    clear hn h hnl
    go_enter Try.func17, Try.ntmps17
    go_wp2
    go_ret2
    rw [HS.out]
    refine ⟨⟨some ⟨w.heap.size, 0, none⟩, 1, [⟨none, 0, []⟩], rfl, rfl, ⟨⟨⟨rfl, Nat.le_refl _, by omega, by simp⟩, fun _ => ⟨w.heap.size, 0, rfl, by simp, fun j v hv => ?_⟩⟩, fun r hr => by rw [List.mem_singleton.1 hr]; exact BR.nil _⟩⟩, alloc_bel _ _⟩
    rw [Nat.zero_add, (Blk.new w _ _).cell j]
    simpa [BRow.v] using hv
  · have HS : Hid (textsR ks = (textsS ks, 0)) := by unfold Hid textsR; rw [if_neg (by omega)]
    have hwi : (n : Int) ≤ 128 := by omega
    have h1i : (1 : Int) ≤ n := by omega
    have hne : ¬ (n : Int) = 0 := by omega
    have hlt : ¬ (128 : Int) < n := by omega
    have hle := textsS_le n ks hn h1
    have b0 := alloc_bel w (.cells #[.slice none 0 0] 119)
    have HF := Lib.hid (textFold_any w w.heap.size n ks A c [] (w.alloc (.cells #[.slice none 0 0] 119)) hn h1 (by omega) h b0 (TX.new w) (by simp; omega))
    generalize textsS ks = ts at HS HF hle
    generalize rootS ks = rt at HF
    rw [List.nil_append] at HF
    have HLE : Hid (ts.length ≤ 100000) := by unfold Hid; omega
    clear hn h hw hle
    go_enter Try.func17, Try.ntmps17
    go_wp2_with (go_at_call 63; refine (HF.out).mono ?_; rintro e w1 ⟨rfl, ht1, hk1, hb1⟩; obtain ⟨A1, c1, rs, hc1, hrs, hrr⟩ := ht1.rr HLE.out; have HRS := Lib.hid hrs; have HRR := Lib.hid hrr; have B1 := Lib.hid (b0.trans hb1); generalize hq : rs.length = q at hc1; have HQ := Lib.hid hq; clear hrs hrr ht1 hk1 hb1 hq)
    go_ret2
    rw [HS.out]
    exact ⟨⟨A1, c1, rs, by rw [HQ.out]; rfl, HRS.out, HRR.out⟩, B1.out⟩
end Go.Proofs.Ytinpiodfpnbllaa

/- The texts of a list: the reference's. -/
namespace Go.Proofs.Ytinpiodfpnbllaa
open Go.RowKit
set_option linter.unusedVariables false
set_option linter.unusedSimpArgs false

section
variable {md : Region.Mode} {ops : Array Oper} {Q : Exit → Act → World → Prop} {S : World → Prop} {fuel : Nat} {listed : Array Bool} {a : Act} {w : World}
/-- append to rows that the call owns, the only operation that may come up. -/
theorem hd_appendR (i : Nat) {oi : Oper} (s x : Operand) (hi : ops[i]? = some oi) (ho : oi.op = .call { callee := .builtin .append, args := #[s, x], argTypes := #[45, 45] }) (hg : oi.guard = none) (hr : Region.ready md ops listed = [i])
    (B : Nat) (A : Option Addr) (n c : Nat) (rs : List BRow) (hn : rs.length = n) (hs : a.eval s = .slice A n c) (hown : RO B w A c rs)
    (X : Option Addr) (m d : Nat) (news : List BRow) (hm : news.length = m) (hx : a.eval x = .slice X m d) (hsrc : Src w 1 X m (news.map BRow.v)) (hlen : n + m ≤ 1000000) (hB : B ≤ w.heap.size)
    (h : ∀ A' c' w', RO B w' A' c' (rs ++ news) → Below B w w' → w.grownBy w' (Value.ownBlock (.slice A n c)) → S w' ∧ wpAnyH Try.prog md ops Q S fuel (listed.setIfInBounds i true) (a.put oi.dst (.slice A' (n + m) c')) w') : wpAnyH Try.prog md ops Q S (fuel + 1) listed a w := by
  obtain ⟨i0, hi0, hz0, hz1, hz2⟩ := info_parts rows_info
  subst hn hm
  obtain ⟨A', c', w', hrun, h2, h3, h4⟩ := run_append_src (P := Try.prog) w B 45 oi.type 24 i0 (.slice none 0 0) 1 24 Try.underlying45 hi0 hz0 hz1 hz2 rfl (by omega) A rs.length c (rs.map BRow.v) hown X news.length d (news.map BRow.v) hsrc (by intro u hu; obtain ⟨r, _, rfl⟩ := List.mem_map.1 hu; rfl) (by simp only [maxLen]; omega) (by omega) hB
  refine hd_one i hi hg hr ?_
  refine Lib.wp_append_run w s x 45 45 ho _ _ hs hx _ w' hrun ?_
  refine h A' c' w' ?_ (grown_below (Below.refl _ _) hown h3 hB (Nat.le_refl _)) h3
  unfold RO
  rw [List.map_append, List.length_append]
  exact h2
end
/-- Texts that the call owns. -/
def TO (B : Nat) (w : World) (A : Option Addr) (c : Nat) (rs : List BRow) (ts : List (List UInt8)) : Prop := rs.map BRow.l = ts ∧ RO B w A c rs ∧ ∀ r ∈ rs, OB B w r.A r.c r.l
theorem TO.below {B : Nat} {w w' : World} {A : Option Addr} {c : Nat} {rs : List BRow} {ts : List (List UInt8)} (h : TO B w A c rs ts) (hb : Below w.heap.size w w') : TO B w' A c rs ts := ⟨h.1, h.2.1.below hb, fun r hr => (h.2.2 r hr).below hb⟩
theorem RO.le_ {B B' : Nat} {w : World} {A : Option Addr} {c : Nat} {rs : List BRow} (h : RO B w A c rs) (hB : B' ≤ B) : RO B' w A c rs :=
  ⟨h.1, h.2.elim Or.inl (fun ⟨g, cap, cur, hv, hg, r⟩ => Or.inr ⟨g, cap, cur, hv, Nat.le_trans hB hg, r⟩)⟩
theorem TO.le_ {B B' : Nat} {w : World} {A : Option Addr} {c : Nat} {rs : List BRow} {ts : List (List UInt8)} (h : TO B w A c rs ts) (hB : B' ≤ B) : TO B' w A c rs ts := ⟨h.1, h.2.1.le_ hB, fun r hr => (h.2.2 r hr).le_ hB⟩
theorem TO.len {B : Nat} {w : World} {A : Option Addr} {c : Nat} {rs : List BRow} {ts : List (List UInt8)} (h : TO B w A c rs ts) : rs.length = ts.length := by rw [← h.1, List.length_map]
theorem TO.rr {B : Nat} {w : World} {A : Option Addr} {c : Nat} {rs : List BRow} {ts : List (List UInt8)} (h : TO B w A c rs ts) (hl : ts.length ≤ 100000) (hb : ∀ t ∈ ts, t.length ≤ 1000) : RR w A c rs :=
  h.2.1.rr (by rw [h.len]; omega) fun r hr => (h.2.2 r hr).br (by have := hb r.l (by rw [← h.1]; exact List.mem_map.2 ⟨r, hr, rfl⟩); omega)
theorem RO.lit (B : Nat) (w : World) (r : BRow) (hB : B ≤ w.heap.size) : RO B (w.alloc (.cells #[r.v] 24)) (some ⟨w.heap.size, 0, none⟩) 1 [r] := by
  have h := World.ownsRow_lit (e := 24) (size := 1) w #[r.v] 1 hB (by simp [maxLen]) (by simp)
  unfold RO
  simpa using h
theorem textsS_short : ∀ (n : Nat) (l : List (List UInt8)), l.length = n → (∀ k ∈ l, k.length = 16) → ∀ t ∈ textsS l, t.length ≤ 1000 := by
  intro n
  induction n using Nat.strongRecOn with
  | _ n ih =>
    intro l hl hk t ht
    rcases Nat.lt_or_ge n 2 with h2 | h2
    · rcases Nat.lt_or_ge n 1 with h1 | h1
      · rw [List.eq_nil_of_length_eq_zero (show l.length = 0 by omega), textsS_nil, List.mem_singleton] at ht
        subst ht; simp
      · obtain ⟨x, rfl⟩ := List.length_eq_one_iff.1 (show l.length = 1 by omega)
        rw [textsS_one, List.mem_singleton] at ht
        subst ht
        have := hk x (by simp)
        simp [leafT, this]
    have s1 := splitS_lt h2
    have s2 := splitS_pos n
    rw [textsS_node (by omega), hl] at ht
    rcases List.mem_append.1 ht with ht | ht
    · exact ih (splitS n) s1 _ (by rw [List.length_take]; omega) (fun k h => hk k (List.mem_of_mem_take h)) t ht
    · rcases List.mem_append.1 ht with ht | ht
      · exact ih (n - splitS n) (by omega) _ (by rw [List.length_drop]; omega) (fun k h => hk k (List.mem_of_mem_drop h)) t ht
      · rw [List.mem_singleton.1 ht]
        simp [nodeT, rootS_length]

set_option maxHeartbeats 1000000 in
set_option maxRecDepth 100000 in
theorem refTexts_one (k : List UInt8) (A : Option Addr) (c : Nat) (w : World) (h : KR w A c [k]) :
    Calls Try.prog 69 #[.slice A 1 c] w fun e w' => (∃ A' c' rs, e = .returned (.slice A' rs.length c') ∧ TO w.heap.size w' A' c' rs (textsS [k])) ∧ Below w.heap.size w w' := by
  have hk : k.length = 16 := h.2 k (by simp)
  obtain ⟨b, off, rfl, hb, hr⟩ := h.first
  have HK := Lib.hid hk
  have HR := Lib.hid hr
  have HLT : Hid (∀ W, Calls Try.prog 126 #[.agg (cellsB k).toArray] W fun e w' => (∃ A c, e = .returned (.slice A 17 c) ∧ OB W.heap.size w' A c (leafT k)) ∧ Below W.heap.size W w') := fun W => refLeafText_any k W hk
  have HLL : Hid ((leafT k).length = 17) := by unfold Hid leafT; simp [hk]
  rw [textsS_one]
  generalize leafT k = t at HLT HLL ⊢
  clear hk hr h
  go_enter Try.func69, Try.ntmps69
  go_wp2_with (first
    | (refine wpList_load_mid rfl 23 (.tmp 14) rfl b off rfl (cellsB k) _ HR.out under_key rfl (key_info HK.out) ?_)
    | (go_at_call 126; refine (HLT.out _).mono ?_; rintro e w1 ⟨⟨A1, c1, rfl, ho1⟩, hb1⟩; have HO1 := Lib.hid ho1; have b1 := hb1; clear ho1 hb1))
  go_ret
  refine ⟨⟨_, 1, [⟨A1, c1, t⟩], rfl, rfl, ?_, fun r hr => ?_⟩, b1.alloc b1.size _⟩
  · have := RO.lit w.heap.size w1 ⟨A1, c1, t⟩ b1.size
    simpa only [BRow.v, HLL.out] using this
  · rw [List.mem_singleton.1 hr]
    exact HO1.out.below (alloc_bel _ _)

set_option maxHeartbeats 1000000 in
theorem refTexts_zero (A : Option Addr) (c : Nat) (w : World) :
    Calls Try.prog 69 #[.slice A 0 c] w fun e w' => (∃ A' c' rs, e = .returned (.slice A' rs.length c') ∧ TO w.heap.size w' A' c' rs (textsS [])) ∧ Below w.heap.size w w' := by
  rw [textsS_nil]
  go_enter Try.func69, Try.ntmps69
  go_wp2
  go_ret
  refine ⟨⟨_, 1, [⟨some ⟨w.heap.size, 0, none⟩, 0, []⟩], rfl, rfl, ?_, fun r hr => ?_⟩, alloc2_bel _ _ _⟩
  · have := RO.lit w.heap.size (w.alloc (.cells #[] 5)) ⟨some ⟨w.heap.size, 0, none⟩, 0, []⟩ (by simp)
    rw [World.size_alloc] at this
    exact this
  · rw [List.mem_singleton.1 hr]
    exact (OB.lit0 w.heap.size w (Nat.le_refl _)).below (alloc_bel _ _)

set_option maxHeartbeats 2000000 in
set_option maxRecDepth 100000 in
theorem refTextsOf_any (n : Nat) : ∀ (ks : List (List UInt8)) (A : Option Addr) (c : Nat) (w : World), ks.length = n → n ≤ 1000 → KR w A c ks →
    Calls Try.prog 69 #[.slice A n c] w fun e w' => (∃ A' c' rs, e = .returned (.slice A' rs.length c') ∧ TO w.heap.size w' A' c' rs (textsS ks)) ∧ Below w.heap.size w w' := by
  induction n using Nat.strongRecOn with
  | _ n ih =>
    intro ks A c w hn hbig h
    rcases Nat.lt_or_ge n 2 with h2 | h2
    · rcases Nat.lt_or_ge n 1 with h1 | h1
      · obtain rfl : n = 0 := by omega
        obtain rfl : ks = [] := List.eq_nil_of_length_eq_zero hn
        exact refTexts_zero A c w
      · obtain rfl : n = 1 := by omega
        obtain ⟨k, rfl⟩ := List.length_eq_one_iff.1 hn
        exact refTexts_one k A c w h
    have hs1 := splitS_pos n
    have hs2 := splitS_lt h2
    have hcl : n ≤ c := by have := Rd.le h.1; omega
    have hni : (2 : Int) ≤ (n : Int) := by omega
    have hnb : (n : Int) ≤ 1000 := by omega
    have hne0 : ¬ (n : Int) = 0 := by omega
    have hne1 : ¬ (n : Int) = 1 := by omega
    have HSP : Hid (∀ W, Calls Try.prog 127 #[.int .i64 (n : Int)] W fun e w' => e = .returned (.int .i64 ((splitS n : Nat) : Int)) ∧ W = w') := fun W => refSplit_any n W h2 (by omega)
    have HTEXT : Hid (textsS ks = textsS (ks.take (splitS n)) ++ (textsS (ks.drop (splitS n)) ++ [nodeT (rootS (ks.take (splitS n))) (rootS (ks.drop (splitS n)))])) := by have := textsS_node (l := ks) (by omega); rw [hn] at this; exact this
    have hT1 := textsS_le (splitS n) (ks.take (splitS n)) (by rw [List.length_take]; omega) hs1
    have hT2 := textsS_le (n - splitS n) (ks.drop (splitS n)) (by rw [List.length_drop]; omega) (by omega)
    have HLO : Hid (∀ W, Below w.heap.size w W → Calls Try.prog 69 #[.slice A (splitS n) c] W fun e w' => (∃ A' c' rs, e = .returned (.slice A' rs.length c') ∧ TO W.heap.size w' A' c' rs (textsS (ks.take (splitS n)))) ∧ Below W.heap.size W w') := fun W hW => ih (splitS n) hs2 _ A c W (by rw [List.length_take]; omega) (by omega) ((h.below hW).take _ (by omega))
    have HHI : Hid (∀ W, Below w.heap.size w W → Calls Try.prog 69 #[.slice (dropK A (splitS n) c) (n - splitS n) (c - splitS n)] W fun e w' => (∃ A' c' rs, e = .returned (.slice A' rs.length c') ∧ TO W.heap.size w' A' c' rs (textsS (ks.drop (splitS n)))) ∧ Below W.heap.size W w') := fun W hW => ih (n - splitS n) (by omega) _ _ _ W (by rw [List.length_drop]; omega) (by omega) ((h.below hW).drop _ (by omega))
    have HR1 : Hid (∀ W, Below w.heap.size w W → Calls Try.prog 62 #[.slice A (splitS n) c] W fun e w' => e = .returned (.agg (cellsB (rootS (ks.take (splitS n)))).toArray) ∧ Below W.heap.size W w') := fun W hW => refRootOf_any (splitS n) _ _ _ W (by rw [List.length_take]; omega) (by omega) ((h.below hW).take _ (by omega))
    have HR2 : Hid (∀ W, Below w.heap.size w W → Calls Try.prog 62 #[.slice (dropK A (splitS n) c) (n - splitS n) (c - splitS n)] W fun e w' => e = .returned (.agg (cellsB (rootS (ks.drop (splitS n)))).toArray) ∧ Below W.heap.size W w') := fun W hW => refRootOf_any (n - splitS n) _ _ _ W (by rw [List.length_drop]; omega) (by omega) ((h.below hW).drop _ (by omega))
    have hL1 := rootS_length (ks.take (splitS n))
    have hL2 := rootS_length (ks.drop (splitS n))
    have hsl1 := fun W => slice_keys_to W A n c (splitS n) (by omega)
    have hsl2 := fun W => slice_keys_from W A n c (splitS n) (by omega)
    generalize splitS n = k at HSP HTEXT HLO HHI HR1 HR2 hL1 hL2 hsl1 hsl2 hs1 hs2 hT1 hT2
    generalize rootS (ks.take k) = r1 at HTEXT HR1 hL1
    generalize rootS (ks.drop k) = r2 at HTEXT HR2 hL2
    generalize textsS (ks.take k) = x1 at HTEXT HLO hT1
    generalize textsS (ks.drop k) = x2 at HTEXT HHI hT2
    have HNT : Hid (∀ W, Calls Try.prog 128 #[.agg (cellsB r1).toArray, .agg (cellsB r2).toArray] W fun e w' => (∃ A c, e = .returned (.slice A 33 c) ∧ OB W.heap.size w' A c (nodeT r1 r2)) ∧ Below W.heap.size W w') := fun W => refNodeText_any r1 r2 W hL1 hL2
    have HNL : Hid ((nodeT r1 r2).length = 33) := by unfold Hid nodeT; simp [hL1, hL2]
    generalize nodeT r1 r2 = nt at HTEXT HNT HNL
    have b0 : Below w.heap.size w w := Below.refl _ _
    clear ih h hn hbig hL1 hL2
    go_enter Try.func69, Try.ntmps69
    go_wp2_with (go_at_call 127; refine (HSP.out _).mono ?_; rintro e w1 ⟨rfl, rfl⟩)
    refine wp_region_noPanic ?_
    refine wp_region_held_drew (S := fun _ => True) (by kernel_rfl) trivial (fun hS => ?_)
    refine hd_take 0 (_) rfl rfl (by kernel_rfl) (by kernel_rfl) (by kernel_rfl) (fun _ _ _ h => h) (fun w _ => by go_simp <;> rfl) hS ?_
    refine hd_take 1 (_) rfl rfl (by kernel_rfl) (by kernel_rfl) (by kernel_rfl) (fun _ _ _ h => h) (fun w _ => by go_simp <;> rfl) hS ?_
    refine hd_take 4 (_) rfl rfl (by kernel_rfl) (by kernel_rfl) (by kernel_rfl) (fun _ _ _ h => h) (fun w _ => by go_simp <;> rfl) hS ?_
    refine hd_take 5 (_) rfl rfl (by kernel_rfl) (by kernel_rfl) (by kernel_rfl) (fun _ _ _ h => h) (fun w _ => by go_simp <;> rfl) hS ?_
    simp only [List.getElem_toArray, List.getElem_cons_succ, List.getElem_cons_zero, Act.put, List.setIfInBounds_toArray, List.set_cons_zero, List.set_cons_succ]
    refine hd_take 2 (_) rfl rfl (by kernel_rfl) (by kernel_rfl) (by kernel_rfl) (fun _ _ _ h => h) (fun w _ => by go_simp <;> rfl) hS ?_
    refine hd_take 6 (_) rfl rfl (by kernel_rfl) (by kernel_rfl) (by kernel_rfl) (fun _ _ _ h => h) (fun w _ => by go_simp <;> rfl) hS ?_
    simp only [List.getElem_toArray, List.getElem_cons_succ, List.getElem_cons_zero, Act.put, List.setIfInBounds_toArray, List.set_cons_zero, List.set_cons_succ]
    refine hd_calls 3 69 #[.slice A k c] rfl rfl (by kernel_rfl) (by go_simp) ((HLO.out _ b0.drew).mono ?_)
    rintro e w3 ⟨⟨A3, c3, rs3, rfl, ho3⟩, hb3⟩
    have b3 := bel_on b0.drew hb3
    refine ⟨_, rfl, trivial, ?_⟩
    simp only [List.getElem_toArray, List.getElem_cons_succ, List.getElem_cons_zero, Act.put, List.setIfInBounds_toArray, List.set_cons_zero, List.set_cons_succ]
    refine hd_calls 7 69 #[.slice (dropK A k c) (n - k) (c - k)] rfl rfl (by kernel_rfl) (by go_simp) ((HHI.out _ b3).mono ?_)
    rintro e w4 ⟨⟨A4, c4, rs4, rfl, ho4⟩, hb4⟩
    have b4 := bel_on b3 hb4
    refine ⟨_, rfl, trivial, ?_⟩
    simp only [List.getElem_toArray, List.getElem_cons_succ, List.getElem_cons_zero, Act.put, List.setIfInBounds_toArray, List.set_cons_zero, List.set_cons_succ]
    have ho3' := ho3.below hb4
    have hz4 : w.drew.heap.size ≤ w4.heap.size := b4.size
    have hz3 : w.drew.heap.size ≤ w3.heap.size := b3.size
    have ho4' := ho4.le_ hz3
    have l3 := ho3.len
    have l4 := ho4.len
    obtain ⟨q3, hq3⟩ : ∃ q, rs3.length = q := ⟨_, rfl⟩
    obtain ⟨q4, hq4⟩ : ∃ q, rs4.length = q := ⟨_, rfl⟩
    have hsrc : Src w4 1 A4 q4 (rs4.map BRow.v) := by have := (Rd.of_own ho4.2.1 (by omega)).src; rw [hq4] at this; exact this
    rw [hq3, hq4]
    refine hd_appendR 8 (.tmp 24) (.tmp 28) rfl rfl rfl (by kernel_rfl) w.drew.heap.size A3 q3 c3 rs3 hq3 rfl ho3'.2.1 A4 q4 c4 rs4 hq4 rfl hsrc (by omega) hz4 ?_
    intro A5 c5 w5 ho5 hb5 hg5
    rw [← hq3] at hg5
    have hto5 : TO w.drew.heap.size w5 A5 c5 (rs3 ++ rs4) (x1 ++ x2) := ⟨by rw [List.map_append, ho3.1, ho4.1], ho5, fun r hr => by
      rcases List.mem_append.1 hr with hr | hr
      · exact own_kept (ho3'.2.2 r hr) ho3'.2.1 (by decide) hg5
      · exact own_kept (ho4'.2.2 r hr) ho3'.2.1 (by decide) hg5⟩
    have b5 : Below w.heap.size w w5 := b4.trans hb5
    refine ⟨trivial, ?_⟩
    simp only [List.getElem_toArray, List.getElem_cons_succ, List.getElem_cons_zero, Act.put, List.setIfInBounds_toArray, List.set_cons_zero, List.set_cons_succ]
    refine hd_take 9 (.slice A5 (q3 + q4) c5) rfl rfl (by kernel_rfl) (by kernel_rfl) (by kernel_rfl) (fun _ _ _ h => h) (fun w _ => by go_simp) trivial ?_
    refine wpAnyH_done (by kernel_rfl) (NoPanic.normal ?_) _
    simp only [List.getElem_toArray, List.getElem_cons_succ, List.getElem_cons_zero, Act.put, List.setIfInBounds_toArray, List.set_cons_zero, List.set_cons_succ]
    have HTO5 := Lib.hid hto5
    have HB5 := Lib.hid b5
    have HQ : Hid ((rs3 ++ rs4).length = q3 + q4) := by unfold Hid; rw [List.length_append, hq3, hq4]
    have hqb : q3 + q4 ≤ 2000 := by omega
    generalize rs3 ++ rs4 = rs5 at HTO5 HQ
    generalize q3 + q4 = q5 at HQ hqb ⊢
    clear hto5 ho5 ho3 ho3' ho4 ho4' hsrc hg5 hb5 hb4 hb3 b5 b4 b3 l3 l4 hq3 hq4 hz3 hz4
    go_wp2_with fail
    refine wp_region_noPanic ?_
    refine wp_region_held_drew (S := fun _ => True) (by kernel_rfl) trivial (fun hS => ?_)
    refine hd_take 0 (_) rfl rfl (by kernel_rfl) (by kernel_rfl) (by kernel_rfl) (fun _ _ _ h => h) (fun w _ => by go_simp <;> rfl) hS ?_
    refine hd_take 1 (_) rfl rfl (by kernel_rfl) (by kernel_rfl) (by kernel_rfl) (fun _ _ _ h => h) (fun w _ => by go_simp <;> rfl) hS ?_
    refine hd_take 2 (_) rfl rfl (by kernel_rfl) (by kernel_rfl) (by kernel_rfl) (fun _ _ _ h => h) (fun w _ => by go_simp <;> rfl) hS ?_
    refine hd_take 5 (_) rfl rfl (by kernel_rfl) (by kernel_rfl) (by kernel_rfl) (fun _ _ _ h => h) (fun w _ => by go_simp <;> rfl) hS ?_
    refine hd_take 6 (_) rfl rfl (by kernel_rfl) (by kernel_rfl) (by kernel_rfl) (fun _ _ _ h => h) (fun w _ => by go_simp <;> rfl) hS ?_
    simp only [List.getElem_toArray, List.getElem_cons_succ, List.getElem_cons_zero, Act.put, List.setIfInBounds_toArray, List.set_cons_zero, List.set_cons_succ]
    refine hd_take 3 (_) rfl rfl (by kernel_rfl) (by kernel_rfl) (by kernel_rfl) (fun _ _ _ h => h) (fun w _ => by go_simp <;> rfl) hS ?_
    refine hd_take 7 (_) rfl rfl (by kernel_rfl) (by kernel_rfl) (by kernel_rfl) (fun _ _ _ h => h) (fun w _ => by go_simp <;> rfl) hS ?_
    simp only [List.getElem_toArray, List.getElem_cons_succ, List.getElem_cons_zero, Act.put, List.setIfInBounds_toArray, List.set_cons_zero, List.set_cons_succ]
    refine hd_calls 4 62 #[.slice A k c] rfl rfl (by kernel_rfl) (by go_simp) ((HR1.out _ HB5.out.drew).mono ?_)
    rintro e w6 ⟨rfl, hb6⟩
    have b6 := bel_on HB5.out.drew hb6
    refine ⟨_, rfl, trivial, ?_⟩
    simp only [List.getElem_toArray, List.getElem_cons_succ, List.getElem_cons_zero, Act.put, List.setIfInBounds_toArray, List.set_cons_zero, List.set_cons_succ]
    refine hd_calls 8 62 #[.slice (dropK A k c) (n - k) (c - k)] rfl rfl (by kernel_rfl) (by go_simp) ((HR2.out _ b6).mono ?_)
    rintro e w7 ⟨rfl, hb7⟩
    have b7 := bel_on b6 hb7
    refine ⟨_, rfl, trivial, ?_⟩
    simp only [List.getElem_toArray, List.getElem_cons_succ, List.getElem_cons_zero, Act.put, List.setIfInBounds_toArray, List.set_cons_zero, List.set_cons_succ]
    refine hd_calls 9 128 #[.agg (cellsB r1).toArray, .agg (cellsB r2).toArray] rfl rfl (by kernel_rfl) (by go_simp) ((HNT.out _).mono ?_)
    rintro e w8 ⟨⟨A8, c8, rfl, ho8⟩, hb8⟩
    have b8 := bel_on b7 hb8
    refine ⟨_, rfl, trivial, ?_⟩
    simp only [List.getElem_toArray, List.getElem_cons_succ, List.getElem_cons_zero, Act.put, List.setIfInBounds_toArray, List.set_cons_zero, List.set_cons_succ]
    have to8 := ((((HTO5.out.below (Below.refl _ _).drew).below hb6).below hb7).below hb8).below (alloc_bel w8 (.cells #[.slice A8 33 c8] 24))
    have o9 := (ho8.below (alloc_bel w8 (.cells #[.slice A8 33 c8] 24))).le_ (show w.drew.heap.size ≤ w7.heap.size from b7.size)
    have b9 : Below w.heap.size w (w8.alloc (.cells #[.slice A8 33 c8] 24)) := b8.alloc b8.size _
    have hsrc := src_one w8 (.slice A8 33 c8) 24
    refine hd_sole 10 (by kernel_rfl) (op_run (.slice (some ⟨w8.heap.size, 0, none⟩) 1 1) (w8.alloc (.cells #[.slice A8 33 c8] 24)) rfl rfl (by go_simp) ⟨trivial, ?_⟩)
    simp only [List.getElem_toArray, List.getElem_cons_succ, List.getElem_cons_zero, Act.put, List.setIfInBounds_toArray, List.set_cons_zero, List.set_cons_succ]
    refine hd_appendR 11 (.tmp 30) (.tmp 40) rfl rfl rfl (by kernel_rfl) w.drew.heap.size A5 q5 c5 rs5 HQ.out rfl to8.2.1 (some ⟨w8.heap.size, 0, none⟩) 1 1 [⟨A8, c8, nt⟩] rfl rfl (by simpa only [List.map_cons, List.map_nil, BRow.v, HNL.out] using hsrc) (by omega) b9.size ?_
    intro A10 c10 w10 ho10 hb10 hg10
    rw [← HQ.out] at hg10
    have hto10 : TO w.drew.heap.size w10 A10 c10 (rs5 ++ [⟨A8, c8, nt⟩]) ((x1 ++ x2) ++ [nt]) := ⟨by rw [List.map_append, to8.1]; rfl, ho10, fun r hr => by
      rcases List.mem_append.1 hr with hr | hr
      · exact own_kept (to8.2.2 r hr) to8.2.1 (by decide) hg10
      · rw [List.mem_singleton.1 hr]; exact own_kept o9 to8.2.1 (by decide) hg10⟩
    have b10 : Below w.heap.size w w10 := b9.trans hb10
    refine ⟨trivial, ?_⟩
    simp only [List.getElem_toArray, List.getElem_cons_succ, List.getElem_cons_zero, Act.put, List.setIfInBounds_toArray, List.set_cons_zero, List.set_cons_succ]
    refine hd_take 12 (.slice A10 (q5 + 1) c10) rfl rfl (by kernel_rfl) (by kernel_rfl) (by kernel_rfl) (fun _ _ _ h => h) (fun w _ => by go_simp) trivial ?_
    refine wpAnyH_done (by kernel_rfl) (NoPanic.normal ?_) _
    simp only [List.getElem_toArray, List.getElem_cons_succ, List.getElem_cons_zero, Act.put, List.setIfInBounds_toArray, List.set_cons_zero, List.set_cons_succ]
    have HTO10 := Lib.hid hto10
    have HB10 := Lib.hid b10
    have HQ10 : Hid ((rs5 ++ [(⟨A8, c8, nt⟩ : BRow)]).length = q5 + 1) := by unfold Hid; rw [List.length_append, HQ.out]; rfl
    clear hto10 ho10 to8 o9 hsrc hg10 hb10 b10 b9 b8 ho8 hb8
    go_wp2_with fail
    go_ret
    exact ⟨⟨A10, c10, _, by rw [HQ10.out]; rfl, by rw [HTEXT.out]; have := HTO10.out; rw [List.append_assoc] at this; exact this⟩, HB10.out⟩

set_option maxHeartbeats 1000000 in
theorem refTexts_any (ks : List (List UInt8)) (A : Option Addr) (c : Nat) (w : World) {n : Nat} (hn : ks.length = n) (h : KR w A c ks) :
    Calls Try.prog 18 #[.slice A n c] w fun e w' => TxEnd (textsR ks).1 (textsR ks).2 e w' ∧ Below w.heap.size w w' := by
  have hnl : (n : Int) ≤ 140737488351232 := by have := h.len; omega
  rcases Nat.lt_or_ge 128 n with hw | hw
  · have HS : Hid (textsR ks = ([], 4)) := by unfold Hid textsR; rw [if_pos (by omega)]
    have hbi : (128 : Int) < n := by omega
    clear hn h hw
    go_enter Try.func18, Try.ntmps18
    go_wp2
    go_ret2
    rw [HS.out]
    exact ⟨⟨none, 0, [], rfl, rfl, RR.nil _⟩, Below.refl _ _⟩
  · have HS : Hid (textsR ks = (textsS ks, 0)) := by unfold Hid textsR; rw [if_neg (by omega)]
    have hwi : (n : Int) ≤ 128 := by omega
    have hle : (textsS ks).length ≤ 100000 := by
      rcases Nat.lt_or_ge n 1 with h1 | h1
      · rw [List.eq_nil_of_length_eq_zero (show ks.length = 0 by omega), textsS_nil]; simp
      · have := textsS_le n ks hn h1; omega
    have HLE := Lib.hid hle
    have HSH := Lib.hid (textsS_short n ks hn h.2)
    have HF := Lib.hid (refTextsOf_any n ks A c w hn (by omega) h)
    generalize textsS ks = ts at HS HF HLE HSH
    clear hn h hw hle
    go_enter Try.func18, Try.ntmps18
    go_wp2_with (go_at_call 69; refine (HF.out).mono ?_; rintro e w1 ⟨⟨A1, c1, rs, rfl, ht1⟩, hb1⟩; have HT1 := Lib.hid ht1; have B1 := Lib.hid hb1; generalize hq : rs.length = q; have HQ := Lib.hid hq; clear ht1 hb1 hq)
    go_ret2
    rw [HS.out]
    exact ⟨⟨A1, c1, rs, by rw [HQ.out]; rfl, HT1.out.1, HT1.out.rr HLE.out HSH.out⟩, B1.out⟩
end Go.Proofs.Ytinpiodfpnbllaa
