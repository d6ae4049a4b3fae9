/-
  Lemmas and contracts, joined: part 4.
-/
import Derived.Lib.AppendZerosOnto
import Derived.Deep.QuietTactic
import Derived.BigQuiet
import Derived.Great.BuildSlice
import Derived.Laws.Tables
import Derived.Test.YtinpiodfpnbllaaAuditListsB3
set_option linter.unusedSimpArgs false
set_option linter.unusedVariables false
set_option linter.unnecessarySimpa false
/- slices.CompactFunc at entries. -/
namespace Go.Proofs.Ytinpiodfpnbllaa
open Go.RowKit
set_option linter.unusedVariables false
set_option linter.unusedSimpArgs false

theorem EB.at_ {B : Nat} {w : World} {g c : Nat} {pre es : List Ent} (h : EB B w g c (partE pre es)) {j : Nat} (hp : pre.length ≤ j) (hj : j < es.length) : w.cell? ⟨g, j * 2, none⟩ = some (.int .i64 es[j].1) ∧ w.cell? ⟨g, j * 2 + 1, none⟩ = some (.int .i64 es[j].2) := by
  have hg := partE_get (pre := pre) hp hj
  have hjl : j < (partE pre es).length := by rw [partE_length (by omega)]; exact hj
  rw [List.getElem?_eq_getElem hjl] at hg
  have := h.cell hjl
  rw [Option.some.inj hg] at this
  exact this
theorem EB.put1 {B : Nat} {w : World} {g c : Nat} {pre es : List Ent} (h : EB B w g c (partE pre es)) (x : Ent) {K : Nat} (hK : pre.length = K) (hl : K < es.length) : EB B ((w.setCell ⟨g, K * 2, none⟩ (.int .i64 x.1)).setCell ⟨g, K * 2 + 1, none⟩ (.int .i64 x.2)) g c (partE (pre ++ [x]) es) := by
  subst hK
  rw [← partE_set x hl]
  exact h.set_ pre.length x
theorem EB.place {B : Nat} {w : World} {g c : Nat} {xs : List Ent} (h : EB B w g c xs) {K : Nat} (hK : K < c) : ∃ u v, w.cell? ⟨g, K * 2, none⟩ = some u ∧ w.cell? ⟨g, K * 2 + 1, none⟩ = some v := by
  have h1 := h.isSome_ (j := K * 2) (by omega)
  have h2 := h.isSome_ (j := K * 2 + 1) (by omega)
  obtain ⟨u, hu⟩ := Option.isSome_iff_exists.1 h1
  obtain ⟨v, hv⟩ := Option.isSome_iff_exists.1 h2
  exact ⟨u, v, hu, hv⟩
theorem slice_ents_from0 (W : World) (g m c n : Nat) (h : n < m) (hm : m ≤ c) :
    (Instr.slice 77 (.slice (some ⟨g, 0, none⟩) m c) (some (.int .i64 (n : Int))) none none).run Try.prog W = .ok (.slice (some ⟨g, n * 2, none⟩) (m - n) (c - n)) W := by
  have := slice_ents_from W g m c n 0 h hm
  rwa [Nat.zero_add] at this

set_option maxHeartbeats 4000000 in
set_option maxRecDepth 100000 in
theorem compact_loop {B : Nat} (es : List Ent) (g c : Nat) (w : World) {n : Nat} (hn : es.length = n) (h2 : 2 ≤ n) (h : EB B w g c es) (hB : B ≤ w.heap.size) (hs : n ≤ 1000000) :
    Calls Try.prog 99 #[.slice (some ⟨g, 0, none⟩) n c, .func (.func 100) #[] #[]] w fun e w' => e = .returned (.slice (some ⟨g, 0, none⟩) (compE es).length c) ∧ EB B w' g c (compE es) ∧ Below B w w' := by
  have hnl : (n : Int) ≤ 1000000 := by omega
  have hni : (2 : Int) ≤ n := by omega
  have hlen := h.len
  have hcap := h.cap
  have hcl : (c : Int) ≤ 9223372036854775807 := by omega
  have hcn : (n : Int) ≤ (c : Int) := by omega
  have hcn' : n ≤ c := by omega
  have HEQ : Hid (∀ (x0 x1 y0 y1 : Int) W, Calls Try.prog 100 #[.agg #[.int .i64 x0, .int .i64 x1], .agg #[.int .i64 y0, .int .i64 y1]] W fun e w' => e = .returned (.bool (x0 == y0)) ∧ Below W.heap.size W w') := fun x0 x1 y0 y1 W => mergeEq_any (x0, x1) (y0, y1) W
  have H := Lib.hid h
  have HN := Lib.hid hn
  have HC1 : Hid (compE (es.take 1) = es.take 1) := compE_one (by omega)
  have HBB := Lib.hid hB
  clear h hn hlen hcap hB
  go_enter Try.func99, Try.ntmps99
  go_wp2_with fail
  go_loopw [5] (fun vi wr => ∃ k : Nat, 1 ≤ k ∧ k ≤ n ∧ vi = .int .i64 (k : Int) ∧ Hid (compE (es.take k) = es.take k) ∧ Hid (EB B wr g c es) ∧ Below B w wr) (fun vi _ => n - (intOf vi).toNat)
  case atStart => exact ⟨1, by omega, by omega, rfl, HC1.out, H.out, Below.refl _ _⟩
  case round =>
    obtain ⟨k, hk1, hk2, rfl, HV, HE, hbel⟩ := hrel
    by_cases hlt : k < n
    · have hki : (k : Int) < n := by omega
      have hk0 : (0 : Int) ≤ (k : Int) := by omega
      obtain ⟨m, hm⟩ : ∃ m, m + 1 = k := ⟨k - 1, by omega⟩
      have hmi : (m : Int) < n := by omega
      have e1 : IntKind.i64.wrap ((k : Int) - 1) = (m : Int) := by rw [IntKind.wrap_i64]; omega
      have hkl : k < es.length := by have := HN.out; omega
      have hml : m < es.length := by omega
      obtain ⟨x, hx⟩ : ∃ x, es[k] = x := ⟨_, rfl⟩
      obtain ⟨y, hy⟩ : ∃ y, es[m] = y := ⟨_, rfl⟩
      have HS : Hid (∀ W, EB B W g c es → (W.cell? ⟨g, k * 2, none⟩ = some (.int .i64 x.1) ∧ W.cell? ⟨g, k * 2 + 1, none⟩ = some (.int .i64 x.2)) ∧ (W.cell? ⟨g, m * 2, none⟩ = some (.int .i64 y.1) ∧ W.cell? ⟨g, m * 2 + 1, none⟩ = some (.int .i64 y.2))) := fun W hW => by
        have a := hW.cell hkl
        have b := hW.cell hml
        rw [hx] at a
        rw [hy] at b
        exact ⟨a, b⟩
      have HSAME : Hid (x.1 = y.1 → compE (es.take (k + 1)) = es.take k) := fun he => by
        subst hm
        rw [compE_same (by omega) (by rw [hx, hy]; exact he)]
        exact HV.out
      have HNEW : Hid (¬ x.1 = y.1 → compE (es.take (k + 1)) = es.take (k + 1)) := fun he => by
        subst hm
        rw [compE_new (by omega) (by rw [hx, hy]; exact he), HV.out]
        rw [take_last hkl]
      have HM := Lib.hid hm
      obtain ⟨x0, x1⟩ := x
      obtain ⟨y0, y1⟩ := y
      simp only at HS HSAME HNEW
      clear hx hy hkl hml hm
      go_wp2_with fail
      have hE0 := Lib.hid (HE.out.drew)
      refine wp_region_noPanic ?_
      refine wp_region_held_drew (S := fun w' => (w'.cell? ⟨g, k * 2, none⟩ = some (.int .i64 x0) ∧ w'.cell? ⟨g, k * 2 + 1, none⟩ = some (.int .i64 x1)) ∧ (w'.cell? ⟨g, m * 2, none⟩ = some (.int .i64 y0) ∧ w'.cell? ⟨g, m * 2 + 1, none⟩ = some (.int .i64 y1))) (by kernel_rfl) (HS.out _ hE0.out) (fun hS => ?_)
      refine hd_take 0 (_) rfl rfl (by kernel_rfl) (by kernel_rfl) (by kernel_rfl) (fun _ _ _ h => h) (fun w hw => by go_simp <;> rfl) hS ?_
      refine hd_take 1 (_) rfl rfl (by kernel_rfl) (by kernel_rfl) (by kernel_rfl) (fun _ _ _ h => h) (fun w hw => by go_simp <;> rfl) hS ?_
      refine hd_take 2 (_) rfl rfl (by kernel_rfl) (by kernel_rfl) (by kernel_rfl) (fun _ _ _ h => h) (fun w hw => by go_simp <;> rfl) hS ?_
      refine hd_take 5 (_) rfl rfl (by kernel_rfl) (by kernel_rfl) (by kernel_rfl) (fun _ _ _ h => h) (fun w hw => by go_simp <;> rfl) hS ?_
      refine hd_take 6 (_) rfl rfl (by kernel_rfl) (by kernel_rfl) (by kernel_rfl) (fun _ _ _ h => h) (fun w hw => by go_simp <;> rfl) hS ?_
      simp only [List.getElem_toArray, List.getElem_cons_succ, List.getElem_cons_zero, Act.put, List.setIfInBounds_toArray, List.set_cons_zero, List.set_cons_succ]
      refine hd_take 3 (_) rfl rfl (by kernel_rfl) (by kernel_rfl) (by kernel_rfl) (fun _ _ _ h => h) (fun w hw => by go_simp <;> rfl) hS ?_
      refine hd_take 7 (.int .i64 (m : Int)) rfl rfl (by kernel_rfl) (by kernel_rfl) (by kernel_rfl) (fun _ _ _ h => h) (fun w hw => by simp [go_sem, e1]) hS ?_
      simp only [List.getElem_toArray, List.getElem_cons_succ, List.getElem_cons_zero, Act.put, List.setIfInBounds_toArray, List.set_cons_zero, List.set_cons_succ]
      refine hd_take 4 (.agg #[.int .i64 x0, .int .i64 x1]) rfl rfl (by kernel_rfl) (by kernel_rfl) (by kernel_rfl) (fun _ _ _ h => h) (fun w hw => by have hx := hw.1.1; have hy := hw.1.2; simp [go_sem, hx, hy]) hS ?_
      refine hd_take 8 (_) rfl rfl (by kernel_rfl) (by kernel_rfl) (by kernel_rfl) (fun _ _ _ h => h) (fun w hw => by go_simp <;> rfl) hS ?_
      simp only [List.getElem_toArray, List.getElem_cons_succ, List.getElem_cons_zero, Act.put, List.setIfInBounds_toArray, List.set_cons_zero, List.set_cons_succ]
      refine hd_take 9 (.agg #[.int .i64 y0, .int .i64 y1]) rfl rfl (by kernel_rfl) (by kernel_rfl) (by kernel_rfl) (fun _ _ _ h => h) (fun w hw => by have hx := hw.2.1; have hy := hw.2.2; simp [go_sem, hx, hy]) hS ?_
      simp only [List.getElem_toArray, List.getElem_cons_succ, List.getElem_cons_zero, Act.put, List.setIfInBounds_toArray, List.set_cons_zero, List.set_cons_succ]
      refine hd_calls 10 100 #[.agg #[.int .i64 x0, .int .i64 x1], .agg #[.int .i64 y0, .int .i64 y1]] rfl rfl (by kernel_rfl) (by go_simp <;> rfl) ?_
      refine (HEQ.out x0 x1 y0 y1 _).mono ?_
      rintro e w3 ⟨rfl, hb3⟩
      have hE3 := Lib.hid (hE0.out.below hb3)
      have hB3 := Lib.hid (show Below B w w3 from hbel.drew.trans (hb3.mono (Nat.le_trans HBB.out hbel.drew.size)))
      refine ⟨_, rfl, HS.out _ hE3.out, ?_⟩
      simp only [List.getElem_toArray, List.getElem_cons_succ, List.getElem_cons_zero, Act.put, List.setIfInBounds_toArray, List.set_cons_zero, List.set_cons_succ]
      refine wpAnyH_done (by kernel_rfl) (NoPanic.normal ?_) _
      clear hS hb3 hbel
      by_cases hxy : x0 = y0
      · have s0 : (x0 == y0) = true := by simpa using hxy
        have HV2 : Hid (compE (es.take (k + 1)) = es.take k) := HSAME.out hxy
        have hsl := fun W => slice_ents_from0 W g n c k hlt (by omega)
        obtain ⟨r, hr⟩ : ∃ r, n = k + r := ⟨n - k, by omega⟩
        have hr1 : 1 ≤ r := by omega
        have hri : (1 : Int) ≤ r := by omega
        have hrl : (r : Int) ≤ 1000000 := by omega
        have hrc : (r : Int) ≤ ((c - k : Nat) : Int) := by omega
        have hrs : n - k = r := by omega
        rw [hrs] at hsl
        have HR := Lib.hid hr
        clear HSAME HNEW hxy hr hrs e1
        go_wp2_with fail
        have hks : (es.take k).length = k := by rw [List.length_take]; have := HN.out; omega
        have HPS : Hid (EB B w3 g c (partE (compE (es.take (k + 1))) es)) := by unfold Hid; rw [HV2.out, partE_take_self (by have := HN.out; omega)]; exact hE3.out
        have HPL : Hid ((compE (es.take (k + 1))).length = k) := by unfold Hid; rw [HV2.out, hks]
        clear hks
        go_loopw [5, 7] (fun vk vi wr => ∃ (K t : Nat), 1 ≤ t ∧ t ≤ r ∧ K + 1 ≤ k + t ∧ vk = .int .i64 (K : Int) ∧ vi = .int .i64 (t : Int) ∧ Hid ((compE (es.take (k + t))).length = K) ∧ Hid (EB B wr g c (partE (compE (es.take (k + t))) es)) ∧ Below B w wr) (fun _ vi _ => r - (intOf vi).toNat)
        case atStart => exact ⟨k, 1, by omega, hr1, by omega, rfl, rfl, HPL.out, HPS.out, hB3.out⟩
        case round =>
          obtain ⟨K, t, ht1, ht2, hKt, rfl, rfl, HL, HP, hbl⟩ := hrel
          by_cases htr : t < r
          · have hti : (t : Int) < r := by omega
            obtain ⟨u, hu⟩ : ∃ u, u + 1 = t := ⟨t - 1, by omega⟩
            have hui : (u : Int) < r := by omega
            have e1 : IntKind.i64.wrap ((t : Int) - 1) = (u : Int) := by rw [IntKind.wrap_i64]; omega
            have hjl : k + t < es.length := by have := HN.out; have := HR.out; omega
            have hml : k + u < es.length := by omega
            obtain ⟨x, hx⟩ : ∃ x, es[k + t] = x := ⟨_, rfl⟩
            obtain ⟨y, hy⟩ : ∃ y, es[k + u] = y := ⟨_, rfl⟩
            have HS2 : Hid (∀ W, EB B W g c (partE (compE (es.take (k + t))) es) → (W.cell? ⟨g, k * 2 + t * 2, none⟩ = some (.int .i64 x.1) ∧ W.cell? ⟨g, k * 2 + t * 2 + 1, none⟩ = some (.int .i64 x.2)) ∧ (W.cell? ⟨g, k * 2 + u * 2, none⟩ = some (.int .i64 y.1) ∧ W.cell? ⟨g, k * 2 + u * 2 + 1, none⟩ = some (.int .i64 y.2))) := fun W hW => by
              have a := hW.at_ (j := k + t) (by rw [HL.out]; omega) hjl
              have b := hW.at_ (j := k + u) (by rw [HL.out]; omega) hml
              rw [hx, Nat.add_mul] at a
              rw [hy, Nat.add_mul] at b
              exact ⟨a, b⟩
            have HSAME : Hid (x.1 = y.1 → compE (es.take (k + (t + 1))) = compE (es.take (k + t))) := fun he => by
              subst hu
              exact compE_same (i := k + u) (by omega) (by have e : es[k + u + 1] = _ := hx; rw [e, hy]; exact he)
            have HNEW : Hid (¬ x.1 = y.1 → compE (es.take (k + (t + 1))) = compE (es.take (k + t)) ++ [x]) := fun he => by
              subst hu
              rw [← hx]
              exact compE_new (i := k + u) (by omega) (by have e : es[k + u + 1] = _ := hx; rw [e, hy]; exact he)
            have hKl : K < es.length := by omega
            have hKn : (K : Int) < n := by have := HN.out; omega
            have hK0 : (0 : Int) ≤ (K : Int) := by omega
            have hKc : K < c := by have := HN.out; omega
            have HKL := Lib.hid hKl
            have HU := Lib.hid hu
            obtain ⟨x0, x1⟩ := x
            obtain ⟨y0, y1⟩ := y
            simp only at HS2 HSAME HNEW
            clear hx hy hjl hml hu hKl
            go_wp2_with fail
            have hE5 := Lib.hid (HP.out.drew)
            refine wp_region_noPanic ?_
            refine wp_region_held_drew (S := fun w' => (w'.cell? ⟨g, k * 2 + t * 2, none⟩ = some (.int .i64 x0) ∧ w'.cell? ⟨g, k * 2 + t * 2 + 1, none⟩ = some (.int .i64 x1)) ∧ (w'.cell? ⟨g, k * 2 + u * 2, none⟩ = some (.int .i64 y0) ∧ w'.cell? ⟨g, k * 2 + u * 2 + 1, none⟩ = some (.int .i64 y1))) (by kernel_rfl) (HS2.out _ hE5.out) (fun hS => ?_)
            refine hd_take 0 (_) rfl rfl (by kernel_rfl) (by kernel_rfl) (by kernel_rfl) (fun _ _ _ h => h) (fun w hw => by go_simp <;> rfl) hS ?_
            refine hd_take 1 (_) rfl rfl (by kernel_rfl) (by kernel_rfl) (by kernel_rfl) (fun _ _ _ h => h) (fun w hw => by go_simp <;> rfl) hS ?_
            refine hd_take 2 (_) rfl rfl (by kernel_rfl) (by kernel_rfl) (by kernel_rfl) (fun _ _ _ h => h) (fun w hw => by go_simp <;> rfl) hS ?_
            refine hd_take 5 (_) rfl rfl (by kernel_rfl) (by kernel_rfl) (by kernel_rfl) (fun _ _ _ h => h) (fun w hw => by go_simp <;> rfl) hS ?_
            refine hd_take 6 (_) rfl rfl (by kernel_rfl) (by kernel_rfl) (by kernel_rfl) (fun _ _ _ h => h) (fun w hw => by go_simp <;> rfl) hS ?_
            simp only [List.getElem_toArray, List.getElem_cons_succ, List.getElem_cons_zero, Act.put, List.setIfInBounds_toArray, List.set_cons_zero, List.set_cons_succ]
            refine hd_take 3 (_) rfl rfl (by kernel_rfl) (by kernel_rfl) (by kernel_rfl) (fun _ _ _ h => h) (fun w hw => by go_simp <;> rfl) hS ?_
            refine hd_take 7 (.int .i64 (u : Int)) rfl rfl (by kernel_rfl) (by kernel_rfl) (by kernel_rfl) (fun _ _ _ h => h) (fun w hw => by simp [go_sem, e1]) hS ?_
            simp only [List.getElem_toArray, List.getElem_cons_succ, List.getElem_cons_zero, Act.put, List.setIfInBounds_toArray, List.set_cons_zero, List.set_cons_succ]
            refine hd_take 4 (.agg #[.int .i64 x0, .int .i64 x1]) rfl rfl (by kernel_rfl) (by kernel_rfl) (by kernel_rfl) (fun _ _ _ h => h) (fun w hw => by have hx := hw.1.1; have hy := hw.1.2; simp [go_sem, hx, hy]) hS ?_
            refine hd_take 8 (_) rfl rfl (by kernel_rfl) (by kernel_rfl) (by kernel_rfl) (fun _ _ _ h => h) (fun w hw => by go_simp <;> rfl) hS ?_
            simp only [List.getElem_toArray, List.getElem_cons_succ, List.getElem_cons_zero, Act.put, List.setIfInBounds_toArray, List.set_cons_zero, List.set_cons_succ]
            refine hd_take 9 (.agg #[.int .i64 y0, .int .i64 y1]) rfl rfl (by kernel_rfl) (by kernel_rfl) (by kernel_rfl) (fun _ _ _ h => h) (fun w hw => by have hx := hw.2.1; have hy := hw.2.2; simp [go_sem, hx, hy]) hS ?_
            simp only [List.getElem_toArray, List.getElem_cons_succ, List.getElem_cons_zero, Act.put, List.setIfInBounds_toArray, List.set_cons_zero, List.set_cons_succ]
            refine hd_calls 10 100 #[.agg #[.int .i64 x0, .int .i64 x1], .agg #[.int .i64 y0, .int .i64 y1]] rfl rfl (by kernel_rfl) (by go_simp <;> rfl) ?_
            refine (HEQ.out x0 x1 y0 y1 _).mono ?_
            rintro e w6 ⟨rfl, hb6⟩
            have hE6 := Lib.hid (hE5.out.below hb6)
            have hB6 := Lib.hid (show Below B w w6 from hbl.drew.trans (hb6.mono (Nat.le_trans HBB.out hbl.drew.size)))
            refine ⟨_, rfl, HS2.out _ hE6.out, ?_⟩
            simp only [List.getElem_toArray, List.getElem_cons_succ, List.getElem_cons_zero, Act.put, List.setIfInBounds_toArray, List.set_cons_zero, List.set_cons_succ]
            by_cases hxy : x0 = y0
            · have s0 : (x0 == y0) = true := by simpa using hxy
              refine hd_take 11 (.bool false) rfl rfl (by kernel_rfl) (by kernel_rfl) (by kernel_rfl) (fun _ _ _ h => h) (fun w _ => by simp [go_sem, s0]) (HS2.out _ hE6.out) ?_
              simp only [List.getElem_toArray, List.getElem_cons_succ, List.getElem_cons_zero, Act.put, List.setIfInBounds_toArray, List.set_cons_zero, List.set_cons_succ]
              refine wpAnyH_done (by kernel_rfl) (NoPanic.normal ?_) _
              clear hS hb6 hbl e1
              have HQ := HSAME.out hxy
              have HL2 : Hid ((compE (es.take (k + (t + 1)))).length = K) := by unfold Hid; rw [HQ]; exact HL.out
              have HP2 : Hid (EB B w6 g c (partE (compE (es.take (k + (t + 1)))) es)) := by unfold Hid; rw [HQ]; exact hE6.out
              clear HQ HSAME HNEW hxy
              go_wp2_with fail
              go_roundw
              case rel => exact ⟨K, t + 1, by omega, by omega, by omega, rfl, by go_num, HL2.out, HP2.out, hB6.out⟩
              case measure => simp [intOf]; omega
            · have s0 : (x0 == y0) = false := by simpa using hxy
              refine hd_take 11 (.bool true) rfl rfl (by kernel_rfl) (by kernel_rfl) (by kernel_rfl) (fun _ _ _ h => h) (fun w _ => by simp [go_sem, s0]) (HS2.out _ hE6.out) ?_
              simp only [List.getElem_toArray, List.getElem_cons_succ, List.getElem_cons_zero, Act.put, List.setIfInBounds_toArray, List.set_cons_zero, List.set_cons_succ]
              refine wpAnyH_done (by kernel_rfl) (NoPanic.normal ?_) _
              clear hS hb6 hbl e1
              have HQ := HNEW.out hxy
              have HL2 : Hid ((compE (es.take (k + (t + 1)))).length = K + 1) := by unfold Hid; rw [HQ, List.length_append, HL.out]; rfl
              have HP2 : Hid (EB B ((w6.setCell ⟨g, K * 2, none⟩ (.int .i64 x0)).setCell ⟨g, K * 2 + 1, none⟩ (.int .i64 x1)) g c (partE (compE (es.take (k + (t + 1)))) es)) := by unfold Hid; rw [HQ]; exact hE6.out.put1 (x0, x1) HL.out HKL.out
              obtain ⟨⟨c0, c1⟩, -⟩ := HS2.out _ hE6.out
              obtain ⟨p0, p1, d0, d1⟩ := hE6.out.place hKc
              have f0 := hE6.out.frozen (K * 2)
              have f1 := hE6.out.frozen (K * 2 + 1)
              have hB7 := Lib.hid ((hB6.out.setCell (p := ⟨g, K * 2, none⟩) (HP.out.1) (.int .i64 x0)).setCell (p := ⟨g, K * 2 + 1, none⟩) (HP.out.1) (.int .i64 x1))
              clear HQ HSAME HNEW hxy
              go_wp2_with fail
              go_roundw
              case rel => exact ⟨K + 1, t + 1, by omega, by omega, by omega, by go_num, by go_num, HL2.out, HP2.out, hB7.out⟩
              case measure => simp [intOf]; omega
          · obtain rfl : t = r := by omega
            have hKn : K < n := by have := HR.out; omega
            have hKi : (K : Int) < n := by omega
            have hsl2 := fun W => slice_ents_from0 W g n c K hKn hcn'
            have hsl3 := fun W => slice_ents_to W (some ⟨g, 0, none⟩) n c K (by omega)
            have HALL : Hid (compE (es.take (k + t)) = compE es) := by unfold Hid; rw [← HR.out, List.take_of_length_le (by have := HN.out; omega)]
            rw [HALL.out] at HP HL
            have HF := Lib.hid (HP.out.take K (by have := HN.out; rw [partE_length (by rw [HL.out]; omega)]; omega))
            have e2 : (partE (compE es) es).take K = compE es := by rw [← HL.out]; exact partE_take
            rw [e2] at HF
            have HFF := Lib.hid (HF.out.far (List.replicate ((n - K) * 2) (.int .i64 0)) (K * 2) (by rw [HL.out]; omega))
            have HBF := Lib.hid (below_setCells HP.out.1 (List.replicate ((n - K) * 2) (.int .i64 0)) (K * 2) hbl)
            have hpos : 0 < n - K := by omega
            have hsum : K + (n - K) ≤ c := by omega
            clear e2 hbl
            go_wp2_with (refine wpList_clear_ents _ rfl (.tmp 61) rfl B g (n - K) K c (c - K) (compE es) rfl HF.out hpos hsum ?_)
            go_ret
            exact ⟨by rw [HL.out]; rfl, HFF.out, HBF.out⟩
      · have s0 : (x0 == y0) = false := by simpa using hxy
        have HV2 := Lib.hid (HNEW.out hxy)
        clear HSAME HNEW hxy e1
        go_wp2_with fail
        go_roundw
        case rel => exact ⟨k + 1, by omega, by omega, by go_num, HV2.out, hE3.out, hB3.out⟩
        case measure => simp [intOf]; omega
    · obtain rfl : k = n := by omega
      have hki : (k : Int) ≤ k := Int.le_refl _
      have HF : Hid (compE es = es) := by
        have := HV.out
        rwa [List.take_of_length_le (by have := HN.out; omega)] at this
      have HG := HE.out
      go_wp2_with fail
      go_ret
      rw [HF.out]
      exact ⟨by rw [HN.out]; rfl, HG, hbel⟩
end Go.Proofs.Ytinpiodfpnbllaa

/- slices.DeleteFunc at entries. -/
namespace Go.Proofs.Ytinpiodfpnbllaa
open Go.RowKit
set_option linter.unusedVariables false
set_option linter.unusedSimpArgs false

/-- The index of the first entry that ends before a time, or -1. -/
def IdxEnd (es : List Ent) (z : Int) (e : Ending) : Prop := (e = .returned (.int .i64 (-1)) ∧ pruneS es z = es) ∨ ∃ k : Nat, ∃ h : k < es.length, e = .returned (.int .i64 (k : Int)) ∧ es[k].2 < z ∧ pruneS (es.take k) z = es.take k
theorem pruneS_keep {es : List Ent} {z : Int} {k : Nat} (hk : k < es.length) (h : ¬ es[k].2 < z) : pruneS (es.take (k + 1)) z = pruneS (es.take k) z ++ [es[k]] := by rw [pruneS_step hk, if_pos (by omega)]
theorem pruneS_drop {es : List Ent} {z : Int} {k : Nat} (hk : k < es.length) (h : es[k].2 < z) : pruneS (es.take (k + 1)) z = pruneS (es.take k) z := by rw [pruneS_step hk, if_neg (by omega), List.append_nil]

set_option maxHeartbeats 4000000 in
set_option maxRecDepth 100000 in
theorem index_any {B : Nat} (es : List Ent) (z : Int) (p : Addr) (g c : Nat) (w : World) {n : Nat} (hn : es.length = n) (h : EB B w g c es) (hp : w.cell? p = some (.int .i64 z)) (hs : n ≤ 1000000) :
    Calls Try.prog 142 #[.slice (some ⟨g, 0, none⟩) n c, .func (.func 103) #[] #[.pointer (some p)]] w fun e w' => IdxEnd es z e ∧ Below w.heap.size w w' := by
  have hnl : (n : Int) ≤ 1000000 := by omega
  have hlen := h.len
  have hcap := h.cap
  have hcl : (c : Int) ≤ 9223372036854775807 := by omega
  have hcn : (n : Int) ≤ (c : Int) := by omega
  have H := Lib.hid h
  have HN := Lib.hid hn
  have hpl := World.block_lt_of_cell? w _ hp
  have HP : Hid (∀ W, Below w.heap.size w W → W.cell? p = some (.int .i64 z)) := fun W hW => (hW.cell hpl).trans hp
  clear h hn hlen hcap hp hpl
  go_enter Try.func142, Try.ntmps142
  go_wp2_with fail
  go_loopw [8] (fun vi wr => ∃ k : Nat, k ≤ n ∧ vi = .int .i64 (k : Int) ∧ Hid (pruneS (es.take k) z = es.take k) ∧ Below w.heap.size w wr) (fun vi _ => n - (intOf vi).toNat)
  case atStart => exact ⟨0, by omega, rfl, by unfold Hid; simp [pruneS], Below.refl _ _⟩
  case round =>
    obtain ⟨k, hk, rfl, HV, hbel⟩ := hrel
    by_cases hlt : k < n
    · have hki : (k : Int) < n := by omega
      have hkl : k < es.length := by have := HN.out; omega
      obtain ⟨x, hx⟩ : ∃ x, es[k] = x := ⟨_, rfl⟩
      have hc := (H.out.below hbel).cell hkl
      rw [hx] at hc
      have HKL := Lib.hid hkl
      obtain ⟨x0, x1⟩ := x
      simp only at hc
      obtain ⟨c0, c1⟩ := hc
      by_cases hd : x1 < z
      · have HC : Hid (∀ W, Below w.heap.size w W → Calls Try.prog 103 #[.agg #[.int .i64 x0, .int .i64 x1], .pointer (some p)] W fun e w' => e = .returned (.bool true) ∧ Below W.heap.size W w') := fun W hW => by
          have := pruneLess_any (x0, x1) z p W (HP.out W hW)
          simp only [hd, decide_true] at this; exact this
        have HX : Hid (∃ h : k < es.length, es[k].2 < z) := ⟨hkl, by rw [hx]; exact hd⟩
        clear hd hx hkl
        go_wp2_with (go_at_call 103; (with_reducible refine (HC.out _ hbel).mono ?_); rintro e w3 ⟨rfl, hb3⟩; have B3 := Lib.hid (bel_on hbel hb3); clear hb3)
        go_ret
        exact ⟨.inr ⟨k, HX.out.1, rfl, HX.out.2, HV.out⟩, B3.out⟩
      · have HC : Hid (∀ W, Below w.heap.size w W → Calls Try.prog 103 #[.agg #[.int .i64 x0, .int .i64 x1], .pointer (some p)] W fun e w' => e = .returned (.bool false) ∧ Below W.heap.size W w') := fun W hW => by
          have := pruneLess_any (x0, x1) z p W (HP.out W hW)
          simp only [hd, decide_false] at this; exact this
        have HX : Hid (pruneS (es.take (k + 1)) z = es.take (k + 1)) := by
          unfold Hid
          rw [pruneS_keep hkl (by rw [hx]; exact hd), HV.out, take_last hkl]
        clear hd hx hkl
        go_wp2_with (go_at_call 103; (with_reducible refine (HC.out _ hbel).mono ?_); rintro e w3 ⟨rfl, hb3⟩; have B3 := Lib.hid (bel_on hbel hb3); clear hb3)
        go_roundw
        case rel => exact ⟨k + 1, by omega, by go_num, HX.out, B3.out⟩
        case measure => simp [intOf]; omega
    · obtain rfl : k = n := by omega
      have hki : (k : Int) ≤ k := Int.le_refl _
      have HX : Hid (pruneS es z = es) := by
        have := HV.out
        rwa [List.take_of_length_le (by have := HN.out; omega)] at this
      go_wp2_with fail
      go_ret
      exact ⟨.inl ⟨rfl, HX.out⟩, hbel⟩

set_option maxHeartbeats 4000000 in
set_option maxRecDepth 100000 in
theorem delete_any {B : Nat} (es : List Ent) (z : Int) (p : Addr) (g c : Nat) (w : World) {n : Nat} (hn : es.length = n) (h0 : 1 ≤ n) (h : EB B w g c es) (hB : B ≤ w.heap.size) (hp : w.cell? p = some (.int .i64 z)) (hpB : p.block < B) (hs : n ≤ 1000000) :
    Calls Try.prog 101 #[.slice (some ⟨g, 0, none⟩) n c, .func (.func 103) #[] #[.pointer (some p)]] w fun e w' => e = .returned (.slice (some ⟨g, 0, none⟩) (pruneS es z).length c) ∧ EB B w' g c (pruneS es z) ∧ Below B w w' := by
  have hnl : (n : Int) ≤ 1000000 := by omega
  have hlen := h.len
  have hcap := h.cap
  have hcl : (c : Int) ≤ 9223372036854775807 := by omega
  have hcn : (n : Int) ≤ (c : Int) := by omega
  have hcn' : n ≤ c := by omega
  have HI := Lib.hid (index_any es z p g c w hn h hp hs)
  have H := Lib.hid h
  have HN := Lib.hid hn
  have HBB := Lib.hid hB
  have HP : Hid (∀ W, Below B w W → W.cell? p = some (.int .i64 z)) := fun W hW => (hW.cell hpB).trans hp
  clear h hn hlen hcap hp hpB hB
  go_enter Try.func101, Try.ntmps101
  go_wp2_with fail
  go_at_call 142
  refine HI.out.mono ?_
  rintro e w1 ⟨he, hb1⟩
  have B1 := Lib.hid (hb1.mono HBB.out)
  have E1 := Lib.hid (H.out.below hb1)
  clear hb1 HI
  rcases he with ⟨rfl, hq⟩ | ⟨k, hkl, rfl, hd, hv⟩
  · have HQ := Lib.hid hq
    clear hq
    go_wp2_with fail
    go_ret
    rw [HQ.out]
    exact ⟨by rw [HN.out]; rfl, E1.out, B1.out⟩
  · have hk : k < n := by have := HN.out; omega
    have hki : (k : Int) < n := by omega
    have hk0 : (0 : Int) ≤ (k : Int) := by omega
    have HV2 : Hid (pruneS (es.take (k + 1)) z = es.take k) := by unfold Hid; rw [pruneS_drop hkl hd]; exact hv
    have HPS : Hid (EB B w1 g c (partE (pruneS (es.take (k + 1)) z) es)) := by unfold Hid; rw [HV2.out, partE_take_self (by omega)]; exact E1.out
    have HPL : Hid ((pruneS (es.take (k + 1)) z).length = k) := by unfold Hid; rw [HV2.out, List.length_take]; omega
    have s0 : ((k : Int) == -1) = false := by simp
    clear hd hv hkl
    go_wp2_with fail
    go_loopw [5, 6] (fun vk vi wr => ∃ (K j : Nat), K + 1 ≤ j ∧ j ≤ n ∧ vk = .int .i64 (K : Int) ∧ vi = .int .i64 (j : Int) ∧ Hid ((pruneS (es.take j) z).length = K) ∧ Hid (EB B wr g c (partE (pruneS (es.take j) z) es)) ∧ Below B w wr) (fun _ vi _ => n - (intOf vi).toNat)
    case atStart => exact ⟨k, k + 1, by omega, by omega, rfl, by go_num, HPL.out, HPS.out, B1.out⟩
    case round =>
      obtain ⟨K, j, hKj, hj, rfl, rfl, HL, HE, hbel⟩ := hrel
      by_cases hlt : j < n
      · have hji : (j : Int) < n := by omega
        have hjl : j < es.length := by have := HN.out; omega
        obtain ⟨x, hx⟩ : ∃ x, es[j] = x := ⟨_, rfl⟩
        have hc := HE.out.at_ (j := j) (by rw [HL.out]; omega) hjl
        rw [hx] at hc
        have hKi : (K : Int) < n := by omega
        have hKl : K < es.length := by omega
        have hKc : K < c := by omega
        obtain ⟨x0, x1⟩ := x
        simp only at hc
        obtain ⟨c0, c1⟩ := hc
        have HKL := Lib.hid hKl
        have hbB : B ≤ wr.heap.size := Nat.le_trans HBB.out hbel.size
        have HBX := Lib.hid (hbel.alloc hbB (.cells #[.int .i64 x0, .int .i64 x1] 79))
        have Q1 := Lib.hid (Blk.new wr 79 #[.int .i64 x0, .int .i64 x1])
        have HEX := Lib.hid (HE.out.alloc (.cells #[.int .i64 x0, .int .i64 x1] 79))
        have HSZ : Hid (B ≤ (wr.alloc (.cells #[.int .i64 x0, .int .i64 x1] 79)).heap.size) := by unfold Hid; simp; omega
        by_cases hd : x1 < z
        · have HC : Hid (∀ W, Below B w W → Calls Try.prog 103 #[.agg #[.int .i64 x0, .int .i64 x1], .pointer (some p)] W fun e w' => e = .returned (.bool true) ∧ Below W.heap.size W w') := fun W hW => by
            have := pruneLess_any (x0, x1) z p W (HP.out W hW)
            simp only [hd, decide_true] at this; exact this
          have HQ : Hid (pruneS (es.take (j + 1)) z = pruneS (es.take j) z) := pruneS_drop hjl (by rw [hx]; exact hd)
          have HL2 : Hid ((pruneS (es.take (j + 1)) z).length = K) := by unfold Hid; rw [HQ.out]; exact HL.out
          clear hd hx hjl hKl hbB
          go_wp2_with (go_at_call 103; (with_reducible refine (HC.out _ HBX.out).mono ?_); rintro e w3 ⟨rfl, hb3⟩; have B3 := Lib.hid (HBX.out.trans (hb3.mono HSZ.out)); have E3 := Lib.hid (HEX.out.below hb3); clear hb3)
          have HP2 : Hid (EB B w3 g c (partE (pruneS (es.take (j + 1)) z) es)) := by unfold Hid; rw [HQ.out]; exact E3.out
          go_roundw
          case rel => exact ⟨K, j + 1, by omega, by omega, rfl, by go_num, HL2.out, HP2.out, B3.out⟩
          case measure => simp [intOf]; omega
        · have HC : Hid (∀ W, Below B w W → Calls Try.prog 103 #[.agg #[.int .i64 x0, .int .i64 x1], .pointer (some p)] W fun e w' => e = .returned (.bool false) ∧ Below W.heap.size W w') := fun W hW => by
            have := pruneLess_any (x0, x1) z p W (HP.out W hW)
            simp only [hd, decide_false] at this; exact this
          have HQ : Hid (pruneS (es.take (j + 1)) z = pruneS (es.take j) z ++ [(x0, x1)]) := by unfold Hid; rw [← hx]; exact pruneS_keep hjl (by rw [hx]; exact hd)
          have HL2 : Hid ((pruneS (es.take (j + 1)) z).length = K + 1) := by unfold Hid; rw [HQ.out, List.length_append, HL.out]; rfl
          clear hd hx hjl hKl hbB
          go_wp2_with (go_at_call 103; (with_reducible refine (HC.out _ HBX.out).mono ?_); rintro e w3 ⟨rfl, hb3⟩; have B3 := Lib.hid (HBX.out.trans (hb3.mono HSZ.out)); have E3 := Lib.hid (HEX.out.below hb3); have q0 : w3.cell? ⟨wr.heap.size, 0, none⟩ = some (.int .i64 x0) := (Q1.out.below' hb3).cell 0; have q1 : w3.cell? ⟨wr.heap.size, 1, none⟩ = some (.int .i64 x1) := (Q1.out.below' hb3).cell 1; obtain ⟨p0, p1, d0, d1⟩ := E3.out.place hKc; have f0 := E3.out.frozen (K * 2); have f1 := E3.out.frozen (K * 2 + 1); clear hb3 c0 c1)
          have HP2 : Hid (EB B ((w3.setCell ⟨g, K * 2, none⟩ (.int .i64 x0)).setCell ⟨g, K * 2 + 1, none⟩ (.int .i64 x1)) g c (partE (pruneS (es.take (j + 1)) z) es)) := by unfold Hid; rw [HQ.out]; exact E3.out.put1 (x0, x1) HL.out HKL.out
          have HB7 := Lib.hid ((B3.out.setCell (p := ⟨g, K * 2, none⟩) (HE.out.1) (.int .i64 x0)).setCell (p := ⟨g, K * 2 + 1, none⟩) (HE.out.1) (.int .i64 x1))
          go_roundw
          case rel => exact ⟨K + 1, j + 1, by omega, by omega, by go_num, by go_num, HL2.out, HP2.out, HB7.out⟩
          case measure => simp [intOf]; omega
      · obtain rfl : j = n := by omega
        have hKn : K < j := by omega
        have hKi : (K : Int) < j := by omega
        have hji : (j : Int) ≤ j := Int.le_refl _
        have hsl2 := fun W => slice_ents_from0 W g j c K hKn hcn'
        have hsl3 := fun W => slice_ents_to W (some ⟨g, 0, none⟩) j c K (by omega)
        have HALL : Hid (pruneS (es.take j) z = pruneS es z) := by unfold Hid; rw [List.take_of_length_le (by have := HN.out; omega)]
        rw [HALL.out] at HE HL
        have HF := Lib.hid (HE.out.take K (by have := HN.out; rw [partE_length (by rw [HL.out]; omega)]; omega))
        have e2 : (partE (pruneS es z) es).take K = pruneS es z := by rw [← HL.out]; exact partE_take
        rw [e2] at HF
        have HFF := Lib.hid (HF.out.far (List.replicate ((j - K) * 2) (.int .i64 0)) (K * 2) (by rw [HL.out]; omega))
        have HBF := Lib.hid (below_setCells HE.out.1 (List.replicate ((j - K) * 2) (.int .i64 0)) (K * 2) hbel)
        have hpos : 0 < j - K := by omega
        have hsum : K + (j - K) ≤ c := by omega
        clear e2 hbel
        go_wp2_with (refine wpList_clear_ents _ rfl (.tmp 38) rfl B g (j - K) K c (c - K) (pruneS es z) rfl HF.out hpos hsum ?_)
        go_ret
        exact ⟨by rw [HL.out]; rfl, HFF.out, HBF.out⟩

set_option maxHeartbeats 2000000 in
theorem index_none (A : Option Addr) (c : Nat) (fv : Value) (w : World) :
    Calls Try.prog 142 #[.slice A 0 c, fv] w fun e w' => e = .returned (.int .i64 (-1)) ∧ w' = w := by
  go_enter Try.func142, Try.ntmps142
  go_wp2_with fail
  refine wp_loop_rounds 1 ?_
  rw [rounds_succ]
  go_wp2_with fail
  go_ret
  exact ⟨rfl, rfl⟩
set_option maxHeartbeats 2000000 in
theorem delete_none (A : Option Addr) (c : Nat) (fv : Value) (w : World) :
    Calls Try.prog 101 #[.slice A 0 c, fv] w fun e w' => e = .returned (.slice A 0 c) ∧ w' = w := by
  go_enter Try.func101, Try.ntmps101
  go_wp2_with (go_at_call 142; refine (index_none _ _ _ _).mono ?_; rintro e w' ⟨rfl, rfl⟩)
  go_ret
  exact ⟨rfl, rfl⟩
set_option maxHeartbeats 2000000 in
theorem compact_short (A : Option Addr) (n c : Nat) (fv : Value) (w : World) (hn : n < 2) :
    Calls Try.prog 99 #[.slice A n c, fv] w fun e w' => e = .returned (.slice A n c) ∧ w' = w := by
  have h1 : (n : Int) < 2 := by omega
  have h2 : (n : Int) ≤ 9223372036854775807 := by omega
  go_enter Try.func99, Try.ntmps99
  go_wp2_with fail
  go_ret
  exact ⟨rfl, rfl⟩
end Go.Proofs.Ytinpiodfpnbllaa

/- slices.Concat at entries. -/
namespace Go.Proofs.Ytinpiodfpnbllaa
open Go.RowKit
set_option linter.unusedVariables false

theorem wpList_growE (w : World) {ops : Array Oper} {rest : List Oper} {o : Oper} {a : Act} {Q : Exit → Act → World → Prop} (hgd : o.guard = none) (s x : Operand)
    (ho : o.op = .call { callee := .builtin .append, args := #[s, x], argTypes := #[77, 3] }) (k : Nat) (hs : a.eval s = .slice none 0 0) (hx : a.eval x = .int .i64 (k : Int)) (h0 : 0 < k) (hk : k ≤ 1000000)
    (h : ∀ c w', OE w.heap.size w' (some ⟨w.heap.size, 0, none⟩) c [] → k ≤ c → c ≤ 9223372036854775807 → Below w.heap.size w w' → wpList Try.prog ops Q rest (a.put o.dst (.slice (some ⟨w.heap.size, 0, none⟩) k c)) w') : wpList Try.prog ops Q (o :: rest) a w := by
  obtain ⟨i0, hi, hz0, hz1, hz2⟩ := info_parts ent_info3
  have hfit : Builtin.nextslicecap (0 + k) 0 * i0.bytes ≤ 281474976710656 := by
    rw [hz2]
    unfold Builtin.nextslicecap
    simp only [Nat.zero_add]
    split <;> (try simp) <;> omega
  have hrun := Lib.run_append_grow_zeros (P := Try.prog) w 77 3 o.type 79 i0 (.agg (cellsX (0, 0)).toArray) .i64 .i64 Try.underlying77 Try.underlying3 hi hz0 none 0 0 [] (by simp [Builtin.firstCells]) k h0 (by rw [hz1]; omega) (by omega) (by omega) (by rw [hz2]; omega) hfit
  refine wpList_plain hgd fun K hK => ?_
  rw [Nat.zero_add] at hrun
  have hge := grownCap_ge w k 0 79
  have hle := grownCap_le_maxLen w k 0 79 (by simp only [maxLen]; omega)
  have ho1 : OE w.heap.size (w.drew.alloc (.cells (([] : List Value).toArray ++ Builtin.zeroCells (Value.agg (cellsX (0, 0)).toArray).cells k ++ Builtin.zeroCells (Value.agg (cellsX (0, 0)).toArray).cells (grownCap w k 0 79 - k)) 79)) (some ⟨w.heap.size, 0, none⟩) (grownCap w k 0 79) [] :=
    ⟨rfl, .inr ⟨w.heap.size, _, _, rfl, Nat.le_refl _, heap_alloc_new w.drew _, Nat.zero_le _, hle, by simp [size_zeroCells, Value.cells, cellsX]; omega, by simp [cellsE]⟩⟩
  have hb1 : Below w.heap.size w (w.drew.alloc (.cells (([] : List Value).toArray ++ Builtin.zeroCells (Value.agg (cellsX (0, 0)).toArray).cells k ++ Builtin.zeroCells (Value.agg (cellsX (0, 0)).toArray).cells (grownCap w k 0 79 - k)) 79)) := (Below.refl _ w).drew.alloc (Nat.le_refl _) _
  unfold Oper.wp
  simp only [execOp, ho, resolve, invoke, builtin, Sem.run_bind, Sem.run_pure, Result.andThen_ok, List.map_toArray, List.map_cons, List.map_nil, hs, hx, hrun]
  exact hK _ _ (h _ _ ho1 hge (by simpa [maxLen] using hle) hb1)

set_option maxHeartbeats 1000000 in
theorem GrowE_any (n : Nat) (w : World) (h0 : 0 < n) (hn : n ≤ 1000000) : Calls Try.prog 139 #[.slice none 0 0, .int .i64 (n : Int)] w fun e w' => (∃ A c, e = .returned (.slice A 0 c) ∧ OE w.heap.size w' A c []) ∧ Below w.heap.size w w' := by
  have hni : (n : Int) ≤ 1000000 := by omega
  have h0i : (0 : Int) < (n : Int) := by omega
  go_enter Try.func139, Try.ntmps139
  go_wp2_with (at_builtin; refine wpList_growE _ rfl (.tmp 20) (.tmp 21) rfl n rfl rfl h0 hn ?_; intro c1 w1 ho1 hc1 hc2 hb1; have HO1 := Lib.hid ho1; clear ho1)
  go_ret
  exact ⟨⟨_, c1, rfl, HO1.out⟩, hb1⟩

set_option maxHeartbeats 1000000 in
theorem GrowE_zero (w : World) : Calls Try.prog 139 #[.slice none 0 0, .int .i64 ((0 : Nat) : Int)] w fun e w' => (∃ A c, e = .returned (.slice A 0 c) ∧ OE w.heap.size w' A c []) ∧ Below w.heap.size w w' := by
  go_enter Try.func139, Try.ntmps139
  go_wp2_with fail
  go_ret
  exact ⟨⟨none, 0, rfl, World.ownsRow_nil _ _ _ _⟩, Below.refl _ _⟩
theorem GrowE_all (n : Nat) (w : World) (hn : n ≤ 1000000) : Calls Try.prog 139 #[.slice none 0 0, .int .i64 (n : Int)] w fun e w' => (∃ A c, e = .returned (.slice A 0 c) ∧ OE w.heap.size w' A c []) ∧ Below w.heap.size w w' := by
  rcases Nat.eq_zero_or_pos n with rfl | h
  · exact GrowE_zero w
  · exact GrowE_any n w h hn

structure ERow where
  A : Option Addr
  c : Nat
  l : List Ent
def ERow.v (r : ERow) : Value := .slice r.A r.l.length r.c
/-- A slice of lists of entries. -/
def RE (w : World) (A : Option Addr) (c : Nat) (rs : List ERow) : Prop := Rd w 1 A c rs.length (rs.map ERow.v) ∧ ∀ r ∈ rs, ER w r.A r.c r.l

/-- The first i rows, one behind the other. -/
def catE (rs : List ERow) (i : Nat) : List Ent := (rs.take i).flatMap ERow.l
theorem catE_succ {rs : List ERow} {i : Nat} {r : ERow} (h : rs[i]? = some r) : catE rs (i + 1) = catE rs i ++ r.l := by
  obtain ⟨hi, he⟩ := List.getElem?_eq_some_iff.1 h
  rw [catE, List.take_succ_eq_append_getElem hi, List.flatMap_append, he]
  simp [catE]
theorem catE_le (rs : List ERow) {i n : Nat} (h : i ≤ n) : (catE rs i).length ≤ (catE rs n).length := by
  have e : (rs.take n).take i = rs.take i := by rw [List.take_take, Nat.min_eq_left h]
  have this := (List.take_append_drop i (rs.take n)).symm
  rw [e] at this
  rw [catE, catE, this, List.flatMap_append, List.length_append]
  omega
theorem RE.cellAt {w : World} {A : Option Addr} {c : Nat} {rs : List ERow} (h : RE w A c rs) {i : Nat} (hi : i < rs.length) :
    ∃ b off r, A = some ⟨b, off, none⟩ ∧ b < w.heap.size ∧ rs[i]? = some r ∧ w.cell? ⟨b, off + i, none⟩ = some (.slice r.A r.l.length r.c) ∧ ER w r.A r.c r.l := by
  obtain ⟨b, off, e, hb, v, hv, hc⟩ := Rd.at1 h.1 hi
  have hr : rs[i]? = some rs[i] := List.getElem?_eq_getElem hi
  rw [List.getElem?_map, hr] at hv
  injection hv with hv
  subst hv
  exact ⟨b, off, rs[i], e, hb, hr, hc, h.2 _ (List.getElem_mem hi)⟩
theorem RE.on {w w' : World} {A : Option Addr} {c : Nat} {rs : List ERow} (h : RE w A c rs) (hb : Below w.heap.size w w') : RE w' A c rs := ⟨h.1.below hb, fun r hr => (h.2 r hr).below hb⟩

set_option maxHeartbeats 1000000 in
set_option maxRecDepth 100000 in
theorem ConcatE_all (A : Option Addr) (c : Nat) (rs : List ERow) (w : World) {n N : Nat} (hn : rs.length = n) (h : RE w A c rs) (hN : (catE rs n).length = N) (hb : N ≤ 1000000) :
    Calls Try.prog 94 #[.slice A n c] w fun e w' => (∃ A' c', e = .returned (.slice A' N c') ∧ OE w.heap.size w' A' c' (catE rs n)) ∧ Below w.heap.size w w' := by
  have HN := Lib.hid hn
  have HNN := Lib.hid hN
  have H := Lib.hid h
  have hni : (N : Int) ≤ 1000000 := by omega
  have hnl : (n : Int) ≤ 140737488351232 := by have := h.1.len; omega
  have HGR : Hid (∀ W, Calls Try.prog 139 #[.slice none 0 0, .int .i64 (N : Int)] W fun e w' => (∃ A c, e = .returned (.slice A 0 c) ∧ OE W.heap.size w' A c []) ∧ Below W.heap.size W w') := fun W => GrowE_all N W hb
  clear hn hN h
  go_enter Try.func94, Try.ntmps94
  go_wp2_with fail
  go_loop [3, 11] (fun vs vi => ∃ (i m : Nat), i ≤ n ∧ vi = .int .i64 (i : Int) ∧ vs = .int .i64 (m : Int) ∧ Hid ((catE rs i).length = m)) (fun _ vi => n - (intOf vi).toNat)
  case atStart => exact ⟨0, 0, by omega, rfl, rfl, rfl⟩
  case round =>
    obtain ⟨i, m, hi, rfl, rfl, HM⟩ := hrel
    have hmN : m ≤ N := by have h1 := catE_le rs hi; rw [HM.out, HNN.out] at h1; exact h1
    have hmi : (m : Int) ≤ 1000000 := by omega
    by_cases hlt : i < n
    · have hii : (i : Int) < n := by omega
      obtain ⟨b, off, r, rfl, hbb, hr, hc, hR⟩ := H.out.cellAt (i := i) (by have := HN.out; omega)
      have HCS := Lib.hid (catE_succ hr)
      have hm2 : m + r.l.length ≤ N := by have h1 := catE_le rs (show i + 1 ≤ n from hlt); rw [HCS.out, List.length_append, HM.out, HNN.out] at h1; exact h1
      obtain ⟨RA, rc, rl⟩ := r
      dsimp only at hc hm2 HCS
      obtain ⟨rn, hrn⟩ : ∃ rn, rl.length = rn := ⟨_, rfl⟩
      rw [hrn] at hc hm2
      have HRN := Lib.hid hrn
      have hm2i : (m : Int) + (rn : Int) ≤ 1000000 := by omega
      clear hr hR hrn
      go_wp2_with fail
      go_round
      case rel => exact ⟨i + 1, m + rn, by omega, by go_num, by go_num, by unfold Hid; rw [HCS.out, List.length_append, HM.out, HRN.out]⟩
      case measure => simp [intOf]; omega
    · obtain rfl : i = n := by omega
      obtain rfl : m = N := by rw [← HM.out, HNN.out]
      have hii : (i : Int) ≤ i := Int.le_refl _
      go_wp2_with (go_at_call 139; refine (HGR.out _).mono ?_; rintro e w1 ⟨⟨A1, c1, rfl, ho1⟩, hb1⟩; have HO1 := Lib.hid ho1; clear ho1)
      go_loopw [6, 27] (fun vo vi wr => ∃ (j q : Nat) (A' : Option Addr) (c' : Nat), j ≤ i ∧ vi = .int .i64 (j : Int) ∧ vo = .slice A' q c' ∧ Hid ((catE rs j).length = q) ∧ Hid (OE w.heap.size wr A' c' (catE rs j)) ∧ Below w.heap.size w wr) (fun _ vi _ => i - (intOf vi).toNat)
      case atStart => exact ⟨0, 0, A1, c1, by omega, rfl, rfl, rfl, HO1.out, hb1⟩
      case round =>
        obtain ⟨j, q, A', c', hj, rfl, rfl, HQ, HO, hbel⟩ := hrel
        by_cases hlt2 : j < i
        · have hji : (j : Int) < i := by omega
          obtain ⟨b, off, r, rfl, hbb, hr, hc, hR⟩ := (H.out.on hbel).cellAt (i := j) (by have := HN.out; omega)
          have HCS := Lib.hid (catE_succ hr)
          have hm2 : q + r.l.length ≤ m := by have h1 := catE_le rs (show j + 1 ≤ i from hlt2); rw [HCS.out, List.length_append, HQ.out, HNN.out] at h1; exact h1
          obtain ⟨RA, rc, rl⟩ := r
          dsimp only at hc hm2 HCS hR
          obtain ⟨rn, hrn⟩ : ∃ rn, rl.length = rn := ⟨_, rfl⟩
          rw [hrn] at hc hm2
          have HRN := Lib.hid hrn
          have HR := Lib.hid hR
          clear hr hR hrn
          go_wp2_with (at_builtin; refine wpList_append_ents _ rfl (.tmp 31) (.tmp 32) rfl w.heap.size A' q c' (catE rs j) HQ.out rfl HO.out RA rn rc rl HRN.out rfl (HR.out.src HRN.out) (by omega) hbel.size ?_; intro A5 c5 w5 hon5 hbl5 hg5; have HON5 := Lib.hid hon5; have b5 := hbel.trans hbl5; clear hon5 hg5 hbl5)
          go_roundw
          case rel => exact ⟨j + 1, q + rn, A5, c5, by omega, by go_num, rfl, by unfold Hid; rw [HCS.out, List.length_append, HQ.out, HRN.out], by rw [HCS.out]; exact HON5.out, b5⟩
          case measure => simp [intOf]; omega
        · obtain rfl : j = i := by omega
          obtain rfl : q = m := by rw [← HQ.out, HNN.out]
          go_wp2_with fail
          go_ret
          exact ⟨⟨A', c', rfl, HO.out⟩, hbel⟩
theorem ConcatE_any (A : Option Addr) (c : Nat) (rs : List ERow) (w : World) {n N : Nat} (hn : rs.length = n) (h : RE w A c rs) (hN : (catE rs n).length = N) (h0 : 0 < N) (hb : N ≤ 1000000) :
    Calls Try.prog 94 #[.slice A n c] w fun e w' => (∃ A' c', e = .returned (.slice A' N c') ∧ OE w.heap.size w' A' c' (catE rs n)) ∧ Below w.heap.size w w' := ConcatE_all A c rs w hn h hN hb
end Go.Proofs.Ytinpiodfpnbllaa

/- Lists of entries sorted, compacted, pruned, cloned and compared. -/
namespace Go.Proofs.Ytinpiodfpnbllaa
open Go.RowKit
set_option linter.unusedVariables false
set_option linter.unusedSimpArgs false

theorem sortO_any {B : Nat} (A : Option Addr) (c : Nat) (es : List Ent) (w : World) {n : Nat} (hn : es.length = n) (h : OE B w A c es) (hB : B ≤ w.heap.size) (hs : n ≤ 1000000) :
    Calls Try.prog 95 #[.slice A n c, .func (.func 96) #[] #[]] w fun e w' => e = .returned (.tuple #[]) ∧ OE B w' A c (sortE es) ∧ Below B w w' := by
  by_cases h0 : es = []
  · subst h0
    obtain rfl : n = 0 := by simpa using hn.symm
    refine (sort_none A c _ w).mono fun e w' ⟨he, hw⟩ => ⟨he, ?_⟩
    subst hw
    exact ⟨by simpa [sortE] using h, Below.refl _ _⟩
  · obtain ⟨g, rfl, hE⟩ := EB.of_own h h0
    refine (sort_any es g c w hn hE hB hs).mono fun e w' ⟨he, h1, h2⟩ => ⟨he, h1.own, h2⟩
theorem compactO_any {B : Nat} (A : Option Addr) (c : Nat) (es : List Ent) (w : World) {n : Nat} (hn : es.length = n) (h : OE B w A c es) (hB : B ≤ w.heap.size) (hs : n ≤ 1000000) :
    Calls Try.prog 99 #[.slice A n c, .func (.func 100) #[] #[]] w fun e w' => e = .returned (.slice A (compE es).length c) ∧ OE B w' A c (compE es) ∧ Below B w w' := by
  by_cases h2 : n < 2
  · refine (compact_short A n c _ w h2).mono fun e w' ⟨he, hw⟩ => ?_
    subst hw
    rw [compE_short (by omega), hn]
    exact ⟨he, h, Below.refl _ _⟩
  · have h0 : es ≠ [] := fun he => by rw [he] at hn; simp at hn; omega
    obtain ⟨g, rfl, hE⟩ := EB.of_own h h0
    exact (compact_loop es g c w hn (by omega) hE hB hs).mono fun e w' ⟨he, h1, h2⟩ => ⟨he, h1.own, h2⟩
theorem deleteO_any {B : Nat} (A : Option Addr) (c : Nat) (es : List Ent) (z : Int) (p : Addr) (w : World) {n : Nat} (hn : es.length = n) (h : OE B w A c es) (hB : B ≤ w.heap.size) (hp : w.cell? p = some (.int .i64 z)) (hpB : p.block < B) (hs : n ≤ 1000000) :
    Calls Try.prog 101 #[.slice A n c, .func (.func 103) #[] #[.pointer (some p)]] w fun e w' => e = .returned (.slice A (pruneS es z).length c) ∧ OE B w' A c (pruneS es z) ∧ Below B w w' := by
  by_cases h0 : es = []
  · subst h0
    obtain rfl : n = 0 := by simpa using hn.symm
    refine (delete_none A c _ w).mono fun e w' ⟨he, hw⟩ => ?_
    subst hw
    exact ⟨he, h, Below.refl _ _⟩
  · obtain ⟨g, rfl, hE⟩ := EB.of_own h h0
    have h1 : 1 ≤ n := by have := List.length_pos_iff.2 h0; omega
    exact (delete_any es z p g c w hn h1 hE hB hp hpB hs).mono fun e w' ⟨he, h1, h2⟩ => ⟨he, h1.own, h2⟩

theorem eql_ents_nil (w : World) (a : Option Addr) (n c n' c' : Nat) : (binOp .eql 77 (.slice a n c) (.slice none n' c')).run Try.prog w = .ok (.bool a.isNone) w := Lib.run_eql_slice_nil w _ _ a n c n' c' Try.underlying77
attribute [local go_sem] eql_ents_nil
theorem ER.none_nil {w : World} {c : Nat} {es : List Ent} (h : ER w none c es) : es = [] := by
  apply Classical.byContradiction
  intro hne
  obtain ⟨g, off, e, _⟩ := h.2 (by have := List.length_pos_iff.2 hne; omega)
  cases e
theorem OE.lit0 (B : Nat) (w : World) (hB : B ≤ w.heap.size) : OE B (w.alloc (.cells #[] 79)) (some ⟨w.heap.size, 0, none⟩) 0 [] := World.ownsRow_lit w #[] 0 hB (by simp [maxLen]) (by simp)
set_option maxHeartbeats 1000000 in
theorem cloneE_any (A : Option Addr) (c : Nat) (es : List Ent) (w : World) {n : Nat} (hn : es.length = n) (h : ER w A c es) (hs : n ≤ 1000000) :
    Calls Try.prog 102 #[.slice A n c] w fun e w' => (∃ A' c', e = .returned (.slice A' n c') ∧ OE w.heap.size w' A' c' es) ∧ Below w.heap.size w w' := by
  have HN := Lib.hid hn
  have H := Lib.hid h
  cases A with
  | none =>
    have hb := h.none_nil
    subst hb
    obtain rfl : n = 0 := by simpa using hn.symm
    clear hn h
    go_enter Try.func102, Try.ntmps102
    go_wp2_with fail
    go_ret
    exact ⟨⟨none, 0, rfl, World.ownsRow_nil _ _ _ _⟩, Below.refl _ _⟩
  | some a =>
    clear hn h
    go_enter Try.func102, Try.ntmps102
    go_wp2_with (at_builtin; refine wpList_append_ents _ rfl (.tmp 5) (.tmp 6) rfl w.heap.size (some ⟨w.heap.size, 0, none⟩) 0 0 [] rfl rfl (OE.lit0 _ _ (Nat.le_refl _)) (some a) n c es HN.out rfl ((H.out.below (alloc_bel _ _)).src HN.out) (by omega) (by simp) ?_; intro A1 c1 w1 hon1 hbl1 hg1; clear hg1; have HON1 := Lib.hid hon1; clear hon1; simp only [Nat.zero_add])
    go_ret
    exact ⟨⟨A1, c1, rfl, HON1.out⟩, (alloc_bel w _).trans hbl1⟩

set_option maxHeartbeats 2000000 in
set_option maxRecDepth 100000 in
theorem sameEnts_any (es : List Ent) (A : Option Addr) (c : Nat) (X : Option Addr) (d : Nat) (w : World) {n : Nat} (hn : es.length = n) (h : ER w A c es) (h' : ER w X d es) :
    Calls Try.prog 43 #[.slice A n c, .slice X n d] w fun e w' => e = .returned (.bool true) ∧ Below w.heap.size w w' := by
  have hnl : (n : Int) ≤ 140737488351232 := by have := h.len; omega
  have HN := Lib.hid hn
  have H := Lib.hid h
  have H' := Lib.hid h'
  clear hn h h'
  go_enter Try.func43, Try.ntmps43
  go_wp2_with fail
  go_loopw [5] (fun vi wr => ∃ i : Nat, i ≤ n ∧ vi = .int .i64 (i : Int) ∧ Below w.heap.size w wr) (fun vi _ => n - (intOf vi).toNat)
  case atStart => exact ⟨0, by omega, rfl, Below.refl _ _⟩
  case round =>
    obtain ⟨i, hi, rfl, hbel⟩ := hrel
    by_cases hlt : i < n
    · have hii : (i : Int) < n := by omega
      have hi0 : (0 : Int) ≤ i := by omega
      obtain ⟨b, off, rfl, hb, c0, c1⟩ := (H.out.below hbel).at_ (i := i) (by have := HN.out; omega)
      obtain ⟨b', off', rfl, hb', d0, d1⟩ := (H'.out.below hbel).at_ (i := i) (by have := HN.out; omega)
      obtain ⟨x, hx⟩ : ∃ x, es[i]'(by have := HN.out; omega) = x := ⟨_, rfl⟩
      rw [hx] at c0 c1 d0 d1
      obtain ⟨x0, x1⟩ := x
      simp only at c0 c1 d0 d1
      clear hx
      go_wp2_with fail
      go_quiet (fail)
      go_wp2_with fail
      go_roundw
      case rel => exact ⟨i + 1, by omega, by go_num, below_drewN hbel _⟩
      case measure => simp [intOf]; omega
    · obtain rfl : i = n := by omega
      have hii : (i : Int) ≤ i := Int.le_refl _
      go_wp2_with fail
      go_ret
      exact ⟨rfl, hbel⟩
end Go.Proofs.Ytinpiodfpnbllaa

/- Whether a revocation list is valid: the program's and the reference's. -/
namespace Go.Proofs.Ytinpiodfpnbllaa
open Go.RowKit
set_option linter.unusedVariables false
set_option linter.unusedSimpArgs false

theorem step_bad {b : Bool} {r u : Int} {z : Bool} (h : b = (okE (r, u) && z)) (hn : ¬ (0 ≤ r ∧ r < 64 ∧ 0 ≤ u ∧ u ≤ 1099511627776)) : b = false := by
  cases e : okE (r, u) with
  | false => rw [h, e]; rfl
  | true => exact absurd (okE_iff.1 e) hn
theorem step_low {b : Bool} {i : Nat} {p r u : Int} (h : b = (okE (r, u) && (decide (i = 0) || decide (p < r)))) (hi : 1 ≤ i) (hp : r ≤ p) : b = false := by
  have e1 : decide (i = 0) = false := decide_eq_false (by omega)
  have e2 : decide (p < r) = false := decide_eq_false (by omega)
  rw [h, e1, e2, Bool.or_false, Bool.and_false]
theorem step_good {b : Bool} {i : Nat} {p r u : Int} (h : b = (okE (r, u) && (decide (i = 0) || decide (p < r)))) (hn : 0 ≤ r ∧ r < 64 ∧ 0 ≤ u ∧ u ≤ 1099511627776) (hp : i = 0 ∨ p < r) : b = true := by
  rw [h, Bool.and_eq_true, Bool.or_eq_true, decide_eq_true_eq, decide_eq_true_eq]
  exact ⟨okE_iff.2 hn, hp⟩
def ckL (b : Bool) : Int := if b = true then 0 else 90

set_option maxHeartbeats 4000000 in
set_option maxRecDepth 100000 in
theorem checkList_any (es : List Ent) (A : Option Addr) (c : Nat) (w : World) {n : Nat} (hn : es.length = n) (h : ER w A c es) :
    Calls Try.prog 44 #[.slice A n c] w fun e w' => e = .returned (.int .i64 (ckL (validL es))) ∧ Below w.heap.size w w' := by
  have hnl : (n : Int) ≤ 140737488351232 := by have := h.len; omega
  have HN := Lib.hid hn
  have H := Lib.hid h
  clear hn h
  go_enter Try.func44, Try.ntmps44
  go_wp2_with fail
  go_loopw [7] (fun vi wr => ∃ i : Nat, i ≤ n ∧ vi = .int .i64 (i : Int) ∧ Hid (validL (es.take i) = true) ∧ Below w.heap.size w wr) (fun vi _ => n - (intOf vi).toNat)
  case atStart => exact ⟨0, by omega, rfl, by unfold Hid; rfl, Below.refl _ _⟩
  case round =>
    obtain ⟨i, hi, rfl, HV, hbel⟩ := hrel
    by_cases hlt : i < n
    · have hii : (i : Int) < n := by omega
      have hil : i < es.length := by have := HN.out; omega
      have hcp := Rd.cap H.out
      have hle := Rd.le H.out
      obtain ⟨b, off, rfl, hb, hc0, hc1⟩ := (H.out.below hbel).at_ hil
      have HST := Lib.hid (validL_step hil HV.out)
      have HER := Lib.hid (H.out.below hbel)
      have hpv : i ≠ 0 → wr.cell? ⟨b, off + (i - 1) * 2, none⟩ = some (.int .i64 (es.getD (i - 1) (0, 0)).1) := fun h0 => by
        obtain ⟨b', off', e, _, hc, _⟩ := HER.out.at_ (i := i - 1) (by omega)
        injection e with e
        injection e with e1 e2
        subst e1 e2
        rw [hc, List.getD_eq_getElem?_getD, List.getElem?_eq_getElem (by omega)]; rfl
      have HPV := Lib.hid hpv
      obtain ⟨x, hx⟩ : ∃ x, es[i] = x := ⟨_, rfl⟩
      rw [hx] at hc0 hc1 HST
      obtain ⟨r, u⟩ := x
      obtain ⟨p, hp⟩ : ∃ p, (es.getD (i - 1) (0, 0)).1 = p := ⟨_, rfl⟩
      simp only [hp] at hpv HPV HST
      clear hpv hil hp hx hcp hle
      have HBAD : validL (es.take (i + 1)) = false → Hid (validL es = false) := fun hb => validL_bad hb
      have ways : r < 0 ∨ (0 ≤ r ∧ 64 ≤ r) ∨ (0 ≤ r ∧ r < 64 ∧ u < 0) ∨ (0 ≤ r ∧ r < 64 ∧ 0 ≤ u ∧ 1099511627776 < u) ∨ (0 ≤ r ∧ r < 64 ∧ 0 ≤ u ∧ u ≤ 1099511627776 ∧ i = 0) ∨ (0 ≤ r ∧ r < 64 ∧ 0 ≤ u ∧ u ≤ 1099511627776 ∧ 1 ≤ i ∧ r ≤ p) ∨ (0 ≤ r ∧ r < 64 ∧ 0 ≤ u ∧ u ≤ 1099511627776 ∧ 1 ≤ i ∧ p < r) := by omega
      simp only at hc0 hc1
      have HC0 := Lib.hid hc0
      have HC1 := Lib.hid hc1
      clear hc0 hc1
      rcases ways with h1 | ⟨h1, h2⟩ | ⟨h1, h2, h3⟩ | ⟨h1, h2, h3, h4⟩ | ⟨h1, h2, h3, h4, h5⟩ | ⟨h1, h2, h3, h4, h5, h6⟩ | ⟨h1, h2, h3, h4, h5, h6⟩
      · skip
        have s0 : decide (r < 0) = true := by simp; omega
        have HF := HBAD (step_bad HST.out (by omega))
        have c0 := HC0.out
        have c1 := HC1.out
        clear HBAD HST h1
        go_wp2_with fail
        have hbb : b < (wr.alloc (.cells #[.int .i64 r, .int .i64 u] 79)).heap.size := Nat.lt_of_lt_of_le hb (by simp)
        have d0 : (wr.alloc (.cells #[.int .i64 r, .int .i64 u] 79)).cell? ⟨wr.heap.size, 0, none⟩ = some (.int .i64 r) := (Blk.new wr _ _).cell 0
        have d1 : (wr.alloc (.cells #[.int .i64 r, .int .i64 u] 79)).cell? ⟨wr.heap.size, 1, none⟩ = some (.int .i64 u) := (Blk.new wr _ _).cell 1
        have B2 := bel_on hbel (alloc_bel wr (.cells #[.int .i64 r, .int .i64 u] 79))
        clear c0 c1
        generalize wr.alloc (.cells #[.int .i64 r, .int .i64 u] 79) = W2 at d0 d1 B2 hbb ⊢
        go_quiet (fail)
        go_wp2_with fail
        go_ret
        exact ⟨by rw [HF.out]; rfl, below_drewN B2 _⟩
      · skip
        have s0 : decide (r < 0) = false := by simp; omega
        have s1 : decide (64 ≤ r) = true := by simp; omega
        have HF := HBAD (step_bad HST.out (by omega))
        have c0 := HC0.out
        have c1 := HC1.out
        clear HBAD HST h1 h2
        go_wp2_with fail
        have hbb : b < (wr.alloc (.cells #[.int .i64 r, .int .i64 u] 79)).heap.size := Nat.lt_of_lt_of_le hb (by simp)
        have d0 : (wr.alloc (.cells #[.int .i64 r, .int .i64 u] 79)).cell? ⟨wr.heap.size, 0, none⟩ = some (.int .i64 r) := (Blk.new wr _ _).cell 0
        have d1 : (wr.alloc (.cells #[.int .i64 r, .int .i64 u] 79)).cell? ⟨wr.heap.size, 1, none⟩ = some (.int .i64 u) := (Blk.new wr _ _).cell 1
        have B2 := bel_on hbel (alloc_bel wr (.cells #[.int .i64 r, .int .i64 u] 79))
        clear c0 c1
        generalize wr.alloc (.cells #[.int .i64 r, .int .i64 u] 79) = W2 at d0 d1 B2 hbb ⊢
        go_quiet (fail)
        go_wp2_with fail
        go_ret
        exact ⟨by rw [HF.out]; rfl, below_drewN B2 _⟩
      · skip
        have s0 : decide (r < 0) = false := by simp; omega
        have s1 : decide (64 ≤ r) = false := by simp; omega
        have s2 : decide (u < 0) = true := by simp; omega
        have HF := HBAD (step_bad HST.out (by omega))
        have c0 := HC0.out
        have c1 := HC1.out
        clear HBAD HST h1 h2 h3
        go_wp2_with fail
        have hbb : b < (wr.alloc (.cells #[.int .i64 r, .int .i64 u] 79)).heap.size := Nat.lt_of_lt_of_le hb (by simp)
        have d0 : (wr.alloc (.cells #[.int .i64 r, .int .i64 u] 79)).cell? ⟨wr.heap.size, 0, none⟩ = some (.int .i64 r) := (Blk.new wr _ _).cell 0
        have d1 : (wr.alloc (.cells #[.int .i64 r, .int .i64 u] 79)).cell? ⟨wr.heap.size, 1, none⟩ = some (.int .i64 u) := (Blk.new wr _ _).cell 1
        have B2 := bel_on hbel (alloc_bel wr (.cells #[.int .i64 r, .int .i64 u] 79))
        clear c0 c1
        generalize wr.alloc (.cells #[.int .i64 r, .int .i64 u] 79) = W2 at d0 d1 B2 hbb ⊢
        go_quiet (fail)
        go_wp2_with fail
        go_ret
        exact ⟨by rw [HF.out]; rfl, below_drewN B2 _⟩
      · skip
        have s0 : decide (r < 0) = false := by simp; omega
        have s1 : decide (64 ≤ r) = false := by simp; omega
        have s2 : decide (u < 0) = false := by simp; omega
        have s3 : decide (1099511627776 < u) = true := by simp; omega
        have HF := HBAD (step_bad HST.out (by omega))
        have c0 := HC0.out
        have c1 := HC1.out
        clear HBAD HST h1 h2 h3 h4
        go_wp2_with fail
        have hbb : b < (wr.alloc (.cells #[.int .i64 r, .int .i64 u] 79)).heap.size := Nat.lt_of_lt_of_le hb (by simp)
        have d0 : (wr.alloc (.cells #[.int .i64 r, .int .i64 u] 79)).cell? ⟨wr.heap.size, 0, none⟩ = some (.int .i64 r) := (Blk.new wr _ _).cell 0
        have d1 : (wr.alloc (.cells #[.int .i64 r, .int .i64 u] 79)).cell? ⟨wr.heap.size, 1, none⟩ = some (.int .i64 u) := (Blk.new wr _ _).cell 1
        have B2 := bel_on hbel (alloc_bel wr (.cells #[.int .i64 r, .int .i64 u] 79))
        clear c0 c1
        generalize wr.alloc (.cells #[.int .i64 r, .int .i64 u] 79) = W2 at d0 d1 B2 hbb ⊢
        go_quiet (fail)
        go_wp2_with fail
        go_ret
        exact ⟨by rw [HF.out]; rfl, below_drewN B2 _⟩
      · skip
        have s0 : decide (r < 0) = false := by simp; omega
        have s1 : decide (64 ≤ r) = false := by simp; omega
        have s2 : decide (u < 0) = false := by simp; omega
        have s3 : decide (1099511627776 < u) = false := by simp; omega
        subst h5
        have s4 : decide ((0 : Int) < ((0 : Nat) : Int)) = false := by simp
        have s5 : decide ((0 : Nat) < 0) = false := by simp
        have HT := Lib.hid (step_good HST.out ⟨h1, h2, h3, h4⟩ (Or.inl rfl))
        have c0 := HC0.out
        have c1 := HC1.out
        simp only [Nat.zero_mul, Nat.add_zero] at c0 c1
        clear HBAD HST h1 h2 h3 h4
        go_wp2_with fail
        have hbb : b < (wr.alloc (.cells #[.int .i64 r, .int .i64 u] 79)).heap.size := Nat.lt_of_lt_of_le hb (by simp)
        have d0 : (wr.alloc (.cells #[.int .i64 r, .int .i64 u] 79)).cell? ⟨wr.heap.size, 0, none⟩ = some (.int .i64 r) := (Blk.new wr _ _).cell 0
        have d1 : (wr.alloc (.cells #[.int .i64 r, .int .i64 u] 79)).cell? ⟨wr.heap.size, 1, none⟩ = some (.int .i64 u) := (Blk.new wr _ _).cell 1
        have B2 := bel_on hbel (alloc_bel wr (.cells #[.int .i64 r, .int .i64 u] 79))
        clear c0 c1
        generalize wr.alloc (.cells #[.int .i64 r, .int .i64 u] 79) = W2 at d0 d1 B2 hbb ⊢
        go_quiet (fail)
        go_wp2_with fail
        go_roundw
        case rel => exact ⟨0 + 1, by omega, by go_num, HT, below_drewN B2 _⟩
        case measure => simp [intOf]; omega
      · skip
        have s0 : decide (r < 0) = false := by simp; omega
        have s1 : decide (64 ≤ r) = false := by simp; omega
        have s2 : decide (u < 0) = false := by simp; omega
        have s3 : decide (1099511627776 < u) = false := by simp; omega
        have s4 : decide ((0 : Int) < (i : Int)) = true := by simp; omega
        have s5 : decide (0 < i) = true := by simp; omega
        have hpc : wr.cell? ⟨b, off + (i - 1) * 2, none⟩ = some (.int .i64 p) := HPV.out (by omega)
        have HPC := Lib.hid hpc
        clear hpc
        have hw1 : IntKind.i64.wrap ((i : Int) - 1) = (i : Int) - 1 := by rw [IntKind.wrap_i64]; omega
        have hw2 : (0 : Int) ≤ (i : Int) - 1 := by omega
        have hw3 : (i : Int) - 1 < (n : Int) := by omega
        have hw4 : ((i : Int) - 1).toNat = i - 1 := by omega
        have hw5 : (1 : Int) ≤ (i : Int) := by omega
        have s6 : decide (r ≤ p) = true := by simp; omega
        have HF := HBAD (step_low HST.out h5 h6)
        have c0 := HC0.out
        have c1 := HC1.out
        clear HBAD HST h1 h2 h3 h4 h5 h6
        have c2 := HPC.out
        go_wp2_with fail
        have hbb : b < (wr.alloc (.cells #[.int .i64 r, .int .i64 u] 79)).heap.size := Nat.lt_of_lt_of_le hb (by simp)
        have d0 : (wr.alloc (.cells #[.int .i64 r, .int .i64 u] 79)).cell? ⟨wr.heap.size, 0, none⟩ = some (.int .i64 r) := (Blk.new wr _ _).cell 0
        have d1 : (wr.alloc (.cells #[.int .i64 r, .int .i64 u] 79)).cell? ⟨wr.heap.size, 1, none⟩ = some (.int .i64 u) := (Blk.new wr _ _).cell 1
        have d2 : (wr.alloc (.cells #[.int .i64 r, .int .i64 u] 79)).cell? ⟨b, off + (i - 1) * 2, none⟩ = some (.int .i64 p) := ((alloc_bel wr _).cell (p := ⟨b, off + (i - 1) * 2, none⟩) hb).trans HPC.out
        clear c2
        have B2 := bel_on hbel (alloc_bel wr (.cells #[.int .i64 r, .int .i64 u] 79))
        clear c0 c1
        generalize wr.alloc (.cells #[.int .i64 r, .int .i64 u] 79) = W2 at d0 d1 d2 B2 hbb ⊢
        go_quiet (fail)
        go_wp2_with fail
        go_ret
        exact ⟨by rw [HF.out]; rfl, below_drewN B2 _⟩
      · skip
        have s0 : decide (r < 0) = false := by simp; omega
        have s1 : decide (64 ≤ r) = false := by simp; omega
        have s2 : decide (u < 0) = false := by simp; omega
        have s3 : decide (1099511627776 < u) = false := by simp; omega
        have s4 : decide ((0 : Int) < (i : Int)) = true := by simp; omega
        have s5 : decide (0 < i) = true := by simp; omega
        have hpc : wr.cell? ⟨b, off + (i - 1) * 2, none⟩ = some (.int .i64 p) := HPV.out (by omega)
        have HPC := Lib.hid hpc
        clear hpc
        have hw1 : IntKind.i64.wrap ((i : Int) - 1) = (i : Int) - 1 := by rw [IntKind.wrap_i64]; omega
        have hw2 : (0 : Int) ≤ (i : Int) - 1 := by omega
        have hw3 : (i : Int) - 1 < (n : Int) := by omega
        have hw4 : ((i : Int) - 1).toNat = i - 1 := by omega
        have hw5 : (1 : Int) ≤ (i : Int) := by omega
        have s6 : decide (r ≤ p) = false := by simp; omega
        have HT := Lib.hid (step_good HST.out ⟨h1, h2, h3, h4⟩ (Or.inr h6))
        have c0 := HC0.out
        have c1 := HC1.out
        clear HBAD HST h1 h2 h3 h4 h5 h6
        have c2 := HPC.out
        go_wp2_with fail
        have hbb : b < (wr.alloc (.cells #[.int .i64 r, .int .i64 u] 79)).heap.size := Nat.lt_of_lt_of_le hb (by simp)
        have d0 : (wr.alloc (.cells #[.int .i64 r, .int .i64 u] 79)).cell? ⟨wr.heap.size, 0, none⟩ = some (.int .i64 r) := (Blk.new wr _ _).cell 0
        have d1 : (wr.alloc (.cells #[.int .i64 r, .int .i64 u] 79)).cell? ⟨wr.heap.size, 1, none⟩ = some (.int .i64 u) := (Blk.new wr _ _).cell 1
        have d2 : (wr.alloc (.cells #[.int .i64 r, .int .i64 u] 79)).cell? ⟨b, off + (i - 1) * 2, none⟩ = some (.int .i64 p) := ((alloc_bel wr _).cell (p := ⟨b, off + (i - 1) * 2, none⟩) hb).trans HPC.out
        clear c2
        have B2 := bel_on hbel (alloc_bel wr (.cells #[.int .i64 r, .int .i64 u] 79))
        clear c0 c1
        generalize wr.alloc (.cells #[.int .i64 r, .int .i64 u] 79) = W2 at d0 d1 d2 B2 hbb ⊢
        go_quiet (fail)
        go_wp2_with fail
        go_roundw
        case rel => exact ⟨i + 1, by omega, by go_num, HT, below_drewN B2 _⟩
        case measure => simp [intOf]; omega
    · obtain rfl : i = n := by omega
      have hii : (i : Int) ≤ i := Int.le_refl _
      have HT : Hid (validL es = true) := by unfold Hid; have := HV.out; rwa [List.take_of_length_le (by have := HN.out; omega)] at this
      go_wp2_with fail
      go_ret
      exact ⟨by rw [HT.out]; rfl, hbel⟩
end Go.Proofs.Ytinpiodfpnbllaa

/- A list of entries with one at each end: the reference's. -/
namespace Go.Proofs.Ytinpiodfpnbllaa
open Go.RowKit
set_option linter.unusedVariables false
set_option linter.unusedSimpArgs false

set_option maxHeartbeats 4000000 in
set_option maxRecDepth 100000 in
theorem refEnded_any (es : List Ent) (A : Option Addr) (c : Nat) (w : World) {n : Nat} (hn : es.length = n) (h : ER w A c es) (hs : n ≤ 1000) :
    Calls Try.prog 89 #[.slice A n c] w fun e w' => (∃ X x, e = .returned (.slice X (n + 2) x) ∧ OE w.heap.size w' X x (endedE es)) ∧ Below w.heap.size w w' := by
  have HN := Lib.hid hn
  have H := Lib.hid h
  have b0 := alloc_bel w (.cells (cellsE [(-1, 0)]).toArray 79)
  have O0 := Lib.hid (OE.lit w.heap.size w [(-1, 0)] (Nat.le_refl _) (by simp) (n := 1) rfl)
  have H0 := Lib.hid (h.below b0)
  have HC : Hid (#[Value.int .i64 (-1), Value.int .i64 0] = (cellsE [(-1, 0)]).toArray) := rfl
  have HC2 : Hid (#[Value.int .i64 64, Value.int .i64 0] = (cellsE [(64, 0)]).toArray) := rfl
  clear hn h
  go_enter Try.func89, Try.ntmps89
  go_wp2_with (first
    | (at_builtin; rw [HC.out]; refine wpList_append_ents _ rfl (.tmp 5) (.tmp 6) rfl w.heap.size (some ⟨w.heap.size, 0, none⟩) 1 1 [(-1, 0)] rfl rfl O0.out A n c es HN.out rfl (H0.out.src HN.out) (by omega) (by simp) ?_; intro A1 c1 w1 ho1 hb1 hg1; have b1 := b0.trans hb1; have O1 := Lib.hid (ho1.below (alloc_bel w1 (.cells (cellsE [(64, 0)]).toArray 79))); have b2 := b1.trans ((alloc_bel w1 (.cells (cellsE [(64, 0)]).toArray 79)).mono b1.size); have hz1 := b1.size; clear ho1 hg1 hb1)
    | (at_builtin; rw [HC2.out]; refine wpList_append_ents _ rfl (.tmp 8) (.tmp 10) rfl w.heap.size A1 (1 + n) c1 ([(-1, 0)] ++ es) (by rw [List.length_append, HN.out]; rfl) rfl O1.out (some ⟨w1.heap.size, 0, none⟩) 1 1 [(64, 0)] rfl rfl (src_litE [(64, 0)] rfl) (by omega) b2.size ?_; intro A3 c3 w3 ho3 hb3 hg3; have O3 := Lib.hid ho3; have b3 := b2.trans hb3; clear ho3 hg3 hb3))
  go_ret
  refine ⟨⟨A3, c3, ?_, ?_⟩, b3⟩
  · show Ending.returned _ = _
    rw [show n + 2 = 1 + n + 1 from by omega]
    rfl
  · exact O3.out
end Go.Proofs.Ytinpiodfpnbllaa

/- Whether a pair is an entry: the program's and the reference's. -/
namespace Go.Proofs.Ytinpiodfpnbllaa
open Go.RowKit
set_option linter.unusedVariables false
set_option linter.unusedSimpArgs false

theorem isE_no {r u : Int} (hn : ¬ (-1 ≤ r ∧ r ≤ 64 ∧ 0 ≤ u ∧ u ≤ 1099511627776)) : isE (r, u) = false := by
  cases e : isE (r, u) with
  | false => rfl
  | true => exact absurd (isE_iff.1 e) hn
theorem isE_yes {r u : Int} (hn : -1 ≤ r ∧ r ≤ 64 ∧ 0 ≤ u ∧ u ≤ 1099511627776) : isE (r, u) = true := isE_iff.2 hn

set_option maxHeartbeats 4000000 in
set_option maxRecDepth 100000 in
theorem isEntry_any (r u : Int) (w : World) :
    Calls Try.prog 90 #[.agg #[.int .i64 r, .int .i64 u]] w fun e w' => e = .returned (.bool (isE (r, u))) ∧ Below w.heap.size w w' := by
  have d0 : (w.alloc (.cells #[.int .i64 r, .int .i64 u] 79)).cell? ⟨w.heap.size, 0, none⟩ = some (.int .i64 r) := (Blk.new w _ _).cell 0
  have d1 : (w.alloc (.cells #[.int .i64 r, .int .i64 u] 79)).cell? ⟨w.heap.size, 1, none⟩ = some (.int .i64 u) := (Blk.new w _ _).cell 1
  have B2 := alloc_bel w (.cells #[.int .i64 r, .int .i64 u] 79)
  go_enter Try.func90, Try.ntmps90
  go_wp2_with fail
  all_goals (go_ret; refine ⟨?_, B2⟩; clear d0 d1 B2; simp_all [isE] <;> omega)

set_option maxHeartbeats 4000000 in
set_option maxRecDepth 100000 in
theorem refIsEntry_any (r u : Int) (w : World) :
    Calls Try.prog 92 #[.agg #[.int .i64 r, .int .i64 u]] w fun e w' => e = .returned (.bool (isE (r, u))) ∧ Below w.heap.size w w' := by
  have d0 : (w.alloc (.cells #[.int .i64 r, .int .i64 u] 79)).cell? ⟨w.heap.size, 0, none⟩ = some (.int .i64 r) := (Blk.new w _ _).cell 0
  have d1 : (w.alloc (.cells #[.int .i64 r, .int .i64 u] 79)).cell? ⟨w.heap.size, 1, none⟩ = some (.int .i64 u) := (Blk.new w _ _).cell 1
  have B2 := alloc_bel w (.cells #[.int .i64 r, .int .i64 u] 79)
  go_enter Try.func92, Try.ntmps92
  go_wp2_with fail
  all_goals (go_ret; refine ⟨?_, B2⟩; clear d0 d1 B2; simp_all [isE] <;> omega)
end Go.Proofs.Ytinpiodfpnbllaa

/- The leaf of an entry: the program's. -/
namespace Go.Proofs.Ytinpiodfpnbllaa
open Go.RowKit
set_option linter.unusedVariables false
set_option linter.unusedSimpArgs false

/-- The leaf after i bytes of the time. -/
def leafP (v : UInt8) (m i : Nat) : List UInt8 := (List.range 16).map fun j => if j = 7 then v else if 15 - j < i then UInt8.ofNat (m / 256 ^ (15 - j)) else 0
theorem leafP_length (v : UInt8) (m i : Nat) : (leafP v m i).length = 16 := by simp [leafP]
theorem leafP_zero (v : UInt8) (m : Nat) : leafP v m 0 = [0, 0, 0, 0, 0, 0, 0, v, 0, 0, 0, 0, 0, 0, 0, 0] := by simp [leafP, List.range, List.range.loop]
theorem leafP_step (v : UInt8) (m i : Nat) (hi : i < 8) : (leafP v m i).set (15 - i) (UInt8.ofNat (m / 256 ^ i)) = leafP v m (i + 1) := by
  refine List.ext_getElem (by simp [leafP]) fun j h1 h2 => ?_
  have hj : j < 16 := by simpa [leafP] using h2
  simp only [leafP, List.getElem_set, List.getElem_map, List.getElem_range]
  by_cases h : 15 - i = j
  · subst h
    rw [if_pos rfl, if_neg (by omega), if_pos (by omega), show 15 - (15 - i) = i from by omega]
  · rw [if_neg h]
    by_cases h3 : j = 7
    · rw [if_pos h3, if_pos h3]
    · rw [if_neg h3, if_neg h3]
      by_cases h4 : 15 - j < i
      · rw [if_pos h4, if_pos (by omega)]
      · rw [if_neg h4, if_neg (by omega)]
theorem leafP_8 (r : Int) (m : Nat) : leafP (UInt8.ofNat (r + 1).toNat) m 8 = leafE (r, (m : Int)) := by
  simp [leafP, leafE, be8, List.range, List.range.loop]
theorem leaf_byte (m i : Nat) (hi : i < 8) : (m : Int) / 2 ^ (8 * i) % 256 = (((UInt8.ofNat (m / 256 ^ i)).toNat : Nat) : Int) := by
  have e : (2 : Int) ^ (8 * i) = ((256 ^ i : Nat) : Int) := by rw [Int.pow_mul]; simp
  rw [e]
  simp
theorem leaf_first {r : Int} (h0 : -1 ≤ r) (h1 : r ≤ 64) : IntKind.u8.wrap (r + 1) = (((UInt8.ofNat (r + 1).toNat).toNat : Nat) : Int) := by
  rw [IntKind.wrap_u8]; simp; omega

set_option maxHeartbeats 4000000 in
set_option maxRecDepth 100000 in
theorem leaf_any (r u : Int) (w : World) (hx : isE (r, u) = true) :
    Calls Try.prog 91 #[.agg #[.int .i64 r, .int .i64 u]] w fun e w' => e = .returned (.agg (cellsB (leafE (r, u))).toArray) ∧ Below w.heap.size w w' := by
  obtain ⟨h0, h1, h2, h3⟩ := isE_iff.1 hx
  simp only at h0 h1 h2 h3
  obtain ⟨m, rfl⟩ := Int.eq_ofNat_of_zero_le h2
  have hb1 : IntKind.i64.wrap (r + 1) = r + 1 := by rw [IntKind.wrap_i64]; omega
  have hb2 := leaf_first h0 h1
  have HV8 := Lib.hid (leafP_8 r m)
  generalize UInt8.ofNat (r + 1).toNat = v at hb2 HV8
  have HZ := Lib.hid zero16
  clear hx h2
  go_enter Try.func91, Try.ntmps91
  go_wp2_with fail
  go_loopw [10] (fun vi wr => ∃ i : Nat, i ≤ 8 ∧ vi = .int .i64 (i : Int) ∧ Hid (Blk wr w.heap.size 79 #[.int .i64 r, .int .i64 (m : Int)]) ∧ Hid (Blk wr (w.heap.size + 1) 23 (cellsB zeroK).toArray) ∧ Hid (Blk wr (w.heap.size + 1 + 1) 23 (cellsB (leafP v m i)).toArray) ∧ Below w.heap.size w wr) (fun vi _ => 8 - (intOf vi).toNat)
  case atStart => exact ⟨0, by omega, rfl, blk_a0 _ _ _ _ _, blk_a1 _ _ _ _ _, by rw [leafP_zero]; exact blk_a2 _ _ _ _ _, alloc3_bel _ _ _ _⟩
  case round =>
    obtain ⟨i, hi, rfl, HB0, HB1, HB2, hbel⟩ := hrel
    by_cases hlt : i < 8
    · have hii : (i : Int) < 8 := by omega
      have e1 : IntKind.i64.wrap (15 - (i : Int)) = 15 - (i : Int) := by rw [IntKind.wrap_i64]; omega
      have e2 : IntKind.i64.wrap (8 * (i : Int)) = 8 * (i : Int) := by rw [IntKind.wrap_i64]; omega
      have e3 : (15 - (i : Int)).toNat = 15 - i := by omega
      have e4 : (8 * (i : Int)).toNat = 8 * i := by omega
      have HV := Lib.hid (leaf_byte m i hlt)
      have HS := Lib.hid (leafP_step v m i hlt)
      generalize UInt8.ofNat (m / 256 ^ i) = x at HV HS
      have c1 := HB0.out.cell 1
      have d1 := (HB2.out.cell (15 - i)).trans (bytes_get _ (15 - i) (by rw [leafP_length]; omega))
      have f1 := HB2.out.frozen (15 - i)
      have HB3 : Hid (Blk (wr.setCell ⟨w.heap.size + 1 + 1, 15 - i, none⟩ (.int .u8 (x.toNat : Int))) (w.heap.size + 1 + 1) 23 (cellsB (leafP v m (i + 1))).toArray) := by
        have := HB2.out.set_ (15 - i) (.int .u8 (x.toNat : Int))
        rw [bytes_set, HS.out] at this
        exact this
      go_wp2_with fail
      rw [HV.out]
      go_roundw
      case rel => exact ⟨i + 1, by omega, by go_num, HB0.out.far (p := ⟨w.heap.size + 1 + 1, 15 - i, none⟩) (by simp; omega) _, HB1.out.far (p := ⟨w.heap.size + 1 + 1, 15 - i, none⟩) (by simp) _, HB3.out, hbel.setCell (p := ⟨w.heap.size + 1 + 1, 15 - i, none⟩) (by simp; omega) _⟩
      case measure => simp [intOf]; omega
    · obtain rfl : i = 8 := by omega
      have hL := leafE_length (r, (m : Int))
      rw [HV8.out] at HB2
      obtain ⟨t, ht⟩ : ∃ t, leafE (r, (m : Int)) = t := ⟨_, rfl⟩
      rw [ht] at HB2 hL
      have HT := Lib.hid ht
      clear ht
      go_wp2_with (first
        | (refine wpList_load_row rfl 23 (.tmp 3) rfl (w.heap.size + 1 + 1) rfl 23 (cellsB t).toArray (0, 0) _ HB2.out under_key rfl (cellsB_size _ hL) ?_)
        | (refine wpList_store_row rfl 23 (.tmp 2) (.tmp 23) rfl (w.heap.size + 1) (cellsB t).toArray rfl rfl 23 (cellsB zeroK).toArray HB1.out (cellsB_size _ hL) (cellsB_sizes _ _ zeroK_length hL) (cellsB_all _) ?_))
      exact bodyPost_ret (results_cell_row rfl _ _ (w.heap.size + 1) _ _ (0, 0) _ rfl (HB1.out.setRow (cellsB t).toArray) under_key rfl (cellsB_size _ hL)) rfl ⟨by rw [HT.out], below_setRow hbel (by omega) _⟩
end Go.Proofs.Ytinpiodfpnbllaa

/- The stream portion by portion, in plain words. -/
namespace Go.Proofs.Ytinpiodfpnbllaa
open Go.RowKit
set_option linter.unusedVariables false

theorem stream_at {k : List UInt8} {n : UInt64} {b : List UInt8} {i j : Nat} (hj : j < 16) (h : 16 * i + j < b.length) : (xorS (padK (b.drop (16 * i))) (encS k (tagS 1 (UInt64.ofNat i) n))).getD j 0 = stB1 k n b (16 * i + j) := by
  unfold stB1
  rw [show (16 * i + j) / 16 = i from by omega, show (16 * i + j) % 16 = j from by omega]
  simp [xorS, padK, List.getD, List.getElem?_range hj, List.getElem?_drop]
theorem stream_take {k : List UInt8} {n : UInt64} {b : List UInt8} {m : Nat} (h : m < b.length) : (streamS k n b).take (m + 1) = (streamS k n b).take m ++ [stB1 k n b m] := by
  rw [List.take_succ_eq_append_getElem (by rw [streamS_length]; exact h)]
  simp [streamS]
theorem stream_all {k : List UInt8} {n : UInt64} {b : List UInt8} {m : Nat} (h : b.length ≤ m) : (streamS k n b).take m = streamS k n b := List.take_of_length_le (by rw [streamS_length]; exact h)
end Go.Proofs.Ytinpiodfpnbllaa

/- The check of a content key: the program's. -/
namespace Go.Proofs.Ytinpiodfpnbllaa
open Go.RowKit
set_option linter.unusedVariables false
attribute [local go_sem] run_storeCells_key

/-- The check of a content key. -/
def chkS (k : List UInt8) : List UInt8 := derS k 53 0
set_option maxHeartbeats 1000000 in
set_option maxRecDepth 100000 in
theorem check_any (k : List UInt8) (w : World) (hk : k.length = 16) : Calls Try.prog 54 #[.agg (cellsB k).toArray] w fun e w' => e = .returned (.agg (cellsB (chkS k)).toArray) ∧ Below w.heap.size w w' := by
  have HK := Lib.hid hk
  have hkl : (cellsB k).length = 16 := by rw [cellsB_length, hk]
  have HZ := Lib.hid zero16
  have HD : Hid (∀ W, Calls Try.prog 110 #[.agg (cellsB k).toArray, .int .u8 53, .int .u64 0] W fun e w' => e = .returned (.agg (cellsB (chkS k)).toArray) ∧ Below W.heap.size W w') := fun W => Derive_any k 53 0 W hk
  have hl : (cellsB (chkS k)).length = 16 := rfl
  have hall := all16 (chkS k)
  clear hk
  go_enter Try.func54, Try.ntmps54
  go_wp2_with (go_at_call 110; rw [fold16B k HK.out, HZ.out]; refine (HD.out _).mono ?_; rintro e w1 ⟨rfl, hb1⟩; have hB1 := (blk_b1 w (.cells (cellsB k).toArray 23) (cellsB zeroK).toArray 23).below' hb1; have hr1 : (rowAt w1 (w.heap.size + 1)).size = 16 := by { rw [hB1.row]; rfl }; have hf1 := hB1.free; have HB1 := Lib.hid hB1; clear hB1)
  exact bodyPost_ret (results_cell_row rfl _ _ (w.heap.size + 1) _ _ (0, 0) _ rfl (HB1.out.setRow (cellsB (chkS k)).toArray) under_key rfl (cellsB_size _ rfl)) rfl ⟨rfl, below_setRow ((alloc2_bel w _ _).trans (hb1.mono (alloc2_bel w _ _).size)) (by omega) _⟩
end Go.Proofs.Ytinpiodfpnbllaa

/- Recordings, in plain words. -/
namespace Go.Proofs.Ytinpiodfpnbllaa
open Go.RowKit
set_option linter.unusedVariables false

/-- A recording, or the error. -/
structure RecV where
  x : List UInt8
  c : List UInt8
  d : List UInt8
  e : Int
/-- No recording. -/
def noRec (e : Int) : RecV := ⟨zeroK, zeroK, [], e⟩
def recS (k y b : List UInt8) : RecV := if 16384 < b.length then noRec 4 else ⟨encS k y, chkS y, streamS y 0 b, 0⟩
def rekS (k a x c b : List UInt8) : RecV := if chkS (decS k x) = c then ⟨encS a (decS k x), c, b, 0⟩ else noRec 53
def plyS (k x c b : List UInt8) : List UInt8 × Int := if 16384 < b.length then ([], 4) else if chkS (decS k x) = c then (streamS (decS k x) 0 b, 0) else ([], 53)
/-- What is handed back, in memory of the call's own. -/
def RecErr (B : Nat) (r : RecV) (e : Ending) (w' : World) : Prop := ∃ A c, e = .returned (.tuple #[.agg (recC r.x r.c A r.d.length c).toArray, .int .i64 r.e]) ∧ OB B w' A c r.d
theorem chkS_length (k : List UInt8) : (chkS k).length = 16 := rfl
theorem recS_x (k y b : List UInt8) : (recS k y b).x.length = 16 := by unfold recS noRec; split <;> rfl
theorem recS_c (k y b : List UInt8) : (recS k y b).c.length = 16 := by unfold recS noRec; split <;> rfl
theorem recS_d (k y b : List UInt8) : (recS k y b).d.length ≤ b.length := by
  unfold recS noRec
  split
  · simp
  · simp [streamS_length]
theorem rekS_x (k a x c b : List UInt8) : (rekS k a x c b).x.length = 16 := by unfold rekS noRec; split <;> rfl
theorem rekS_c (k a x c b : List UInt8) (hc : c.length = 16) : (rekS k a x c b).c.length = 16 := by
  unfold rekS noRec
  split
  · exact hc
  · rfl
theorem rekS_d (k a x c b : List UInt8) : (rekS k a x c b).d.length ≤ b.length := by
  unfold rekS noRec
  split <;> simp
theorem plyS_l (k x c b : List UInt8) : (plyS k x c b).1.length ≤ b.length := by
  unfold plyS
  split
  · simp
  · split
    · simp [streamS_length]
    · simp
end Go.Proofs.Ytinpiodfpnbllaa

/- A recording, made of its parts. -/
namespace Go.Proofs.Ytinpiodfpnbllaa
open Go.RowKit
set_option linter.unusedVariables false

theorem fill_step (place : Nat → Option (Nat × Nat)) (cells : Array Value) (i off size : Nat) (v : Value) (vs : List Value) (rest : List (Nat × Value)) (hp : place i = some (off, size)) (hv : v.cells = vs.toArray) (hs : vs.length = size) (hf : off + size ≤ cells.size) :
    Instr.fill place cells ((i, v) :: rest) = Instr.fill place (cells.toList.take off ++ (vs ++ cells.toList.drop (off + size))).toArray rest := by
  rw [Instr.fill, hp]
  simp only [hv, List.size_toArray]
  rw [if_neg (by simp [hs]; omega)]
  congr 1
  have e := Great.foldl_set off vs 0 cells
  rw [← Array.foldl_toList, Array.toList_zipIdx]
  apply Array.ext_getElem?
  intro k
  rw [e.2 k]
  simp only [List.getElem?_toArray, List.getElem?_append, List.length_take, Array.length_toList, List.getElem?_take, List.getElem?_drop, Array.getElem?_toList]
  by_cases h1 : k < off
  · rw [if_neg (by omega), if_pos (by omega), if_pos h1]
  · rw [if_neg (show ¬ k < min off cells.size by omega)]
    rw [show min off cells.size = off from by omega]
    by_cases h2 : k - off < vs.length
    · rw [if_pos (by omega), if_pos h2, Nat.add_zero]
    · rw [if_neg (by omega), if_neg h2, show off + size + (k - off - vs.length) = k from by omega]
theorem built_rec (x c : List UInt8) (A : Option Addr) (n cap : Nat) (hx : x.length = 16) (hc : c.length = 16) :
    Try.prog.built 26 [(0, .agg (cellsB x).toArray), (1, .agg (cellsB c).toArray), (2, .slice A n cap)] = some (recC x c A n cap).toArray := by
  have hxl : (cellsB x).length = 16 := by rw [cellsB_length, hx]
  have hcl : (cellsB c).length = 16 := by rw [cellsB_length, hc]
  have e : Try.prog.built 26 [(0, .agg (cellsB x).toArray), (1, .agg (cellsB c).toArray), (2, .slice A n cap)] = Instr.fill ((#[(0, 16), (16, 16), (32, 1)] : Array (Nat × Nat))[·]?) (recC zeroK zeroK none 0 0).toArray [(0, .agg (cellsB x).toArray), (1, .agg (cellsB c).toArray), (2, .slice A n cap)] := by kernel_rfl
  rw [e]
  obtain ⟨z, hz', hz⟩ : ∃ z : Array Value, (recC zeroK zeroK none 0 0).toArray = z ∧ z.size = 33 := ⟨_, rfl, rfl⟩
  rw [hz']
  rw [fill_step _ z 0 0 16 _ (cellsB x) _ rfl rfl hxl (by omega)]
  have s1 : (z.toList.take 0 ++ (cellsB x ++ z.toList.drop (0 + 16))).length = 33 := by simp [hxl, hz]
  rw [fill_step _ _ 1 16 16 _ (cellsB c) _ rfl rfl hcl (by rw [List.size_toArray, s1]; omega)]
  have s2 : (((z.toList.take 0 ++ (cellsB x ++ z.toList.drop (0 + 16))).toArray.toList.take 16 ++ (cellsB c ++ (z.toList.take 0 ++ (cellsB x ++ z.toList.drop (0 + 16))).toArray.toList.drop (16 + 16)))).length = 33 := by simp [hxl, hcl, hz]
  rw [fill_step _ _ 2 32 1 _ [.slice A n cap] _ rfl rfl rfl (by rw [List.size_toArray, s2]; omega)]
  rw [Instr.fill]
  refine congrArg (fun l => some (List.toArray l)) ?_
  simp [List.take_append, List.drop_append, List.take_of_length_le, List.drop_of_length_le, hxl, hcl, hz, recC]

theorem free_blk {w : World} {g : Nat} (hf : rowFree w g = true) : ∃ t, Blk w g t (rowAt w g) := by
  unfold rowFree at hf
  unfold Blk rowAt
  split at hf
  · rename_i cs t fr he
    have : fr = (0, 0) := by simpa using hf
    subst this
    exact ⟨t, by rw [he]⟩
  · cases hf
theorem run_storeCells_rec {P : Program} (w : World) (g : Nat) (l : List Value) (hl : l.length = 33) (h1 : l.all (·.oneCell') = true) (h : (rowAt w g).size = 33) (hf : rowFree w g = true) : (storeCells ⟨g, 0, none⟩ l 0).run P w = .ok () (w.setRow g l.toArray) := by
  obtain ⟨t, he⟩ := free_blk hf
  exact run_storeCells_from (P := P) g t l 0 _ w he (by omega) (fun v hv => List.all_eq_true.1 h1 v hv)
theorem zero33 : (#[.int .u8 0, .int .u8 0, .int .u8 0, .int .u8 0, .int .u8 0, .int .u8 0, .int .u8 0, .int .u8 0, .int .u8 0, .int .u8 0, .int .u8 0, .int .u8 0, .int .u8 0, .int .u8 0, .int .u8 0, .int .u8 0, .int .u8 0, .int .u8 0, .int .u8 0, .int .u8 0, .int .u8 0, .int .u8 0, .int .u8 0, .int .u8 0, .int .u8 0, .int .u8 0, .int .u8 0, .int .u8 0, .int .u8 0, .int .u8 0, .int .u8 0, .int .u8 0, .slice none 0 0] : Array Value) = (recC zeroK zeroK none 0 0).toArray := rfl
theorem recC_all (x c : List UInt8) (A : Option Addr) (n cap : Nat) : (recC x c A n cap).all (·.oneCell') = true := by
  rw [List.all_eq_true]
  intro v hv
  rw [recC, List.mem_append, List.mem_append] at hv
  rcases hv with hv | hv | hv
  · exact cells_one x v hv
  · exact cells_one c v hv
  · rw [List.mem_singleton] at hv; subst hv; rfl
section
variable {P : Program} {md : Region.Mode} {ops : Array Oper} {Q : Exit → Act → World → Prop} {S : World → Prop} {fuel : Nat} {listed : Array Bool} {a : Act} {w : World}
/-- A value is made of its parts. -/
theorem hd_build (i : Nat) {oi : Oper} (t : TypeId) (parts : Array (Nat × Operand)) (vs : List (Nat × Value)) (cells : Array Value) (hi : ops[i]? = some oi) (ho : oi.op = .build t parts) (hg : oi.guard = none)
    (hs : Region.noSelect ops = true) (hf : Region.free md ops listed i = true) (hr : (Region.ready md ops listed).contains i = true) (hQ : ∀ c a w, Q (.panic c) (a.put oi.dst (.agg cells)) w → Q (.panic c) a w)
    (hv : (parts.map fun (i, x) => (i, a.eval x)).toList = vs) (hb : P.built t vs = some cells) (hw : S w)
    (h : wpAnyH P md ops Q S fuel (listed.setIfInBounds i true) (a.put oi.dst (.agg cells)) w) : wpAnyH P md ops Q S (fuel + 1) listed a w :=
  hd_take i (.agg cells) hi hg hs hf hr hQ (fun w _ => by
    unfold execOp
    rw [ho]
    simp only [Sem.run_bind, run_build w t _ cells (by rw [hv]; exact hb), Result.andThen_ok]
    rfl) hw h
theorem hd_build3 (i : Nat) {oi : Oper} (t : TypeId) (v0 v1 v2 : Value) (cells : Array Value) (x0 x1 x2 : Operand) (hi : ops[i]? = some oi) (ho : oi.op = .build t #[(0, x0), (1, x1), (2, x2)]) (hg : oi.guard = none)
    (hs : Region.noSelect ops = true) (hf : Region.free md ops listed i = true) (hr : (Region.ready md ops listed).contains i = true) (hQ : ∀ c a w, Q (.panic c) (a.put oi.dst (.agg cells)) w → Q (.panic c) a w)
    (h0 : a.eval x0 = v0) (h1 : a.eval x1 = v1) (h2 : a.eval x2 = v2) (hb : P.built t [(0, v0), (1, v1), (2, v2)] = some cells) (hw : S w)
    (h : wpAnyH P md ops Q S fuel (listed.setIfInBounds i true) (a.put oi.dst (.agg cells)) w) : wpAnyH P md ops Q S (fuel + 1) listed a w :=
  hd_build i t _ _ cells hi ho hg hs hf hr hQ (by simp [h0, h1, h2]) hb hw h
end
theorem OB.low {B : Nat} {w : World} {A : Option Addr} {c : Nat} {l : List UInt8} (h : OB B w A c l) {g : Nat} (hg : g < B) (cs : Array Value) : OB B (w.setRow g cs) A c l :=
  ⟨h.1, h.2.elim Or.inl (fun ⟨g', cap, cur, hv, hB, hh, r⟩ => Or.inr ⟨g', cap, cur, hv, hB, by rw [← hh]; exact setRow_other w g g' cs (by omega), r⟩)⟩
end Go.Proofs.Ytinpiodfpnbllaa

/- A list of one key, made. -/
namespace Go.Proofs.Ytinpiodfpnbllaa
open Go.RowKit
set_option linter.unusedVariables false

theorem run_build_key (w : World) (k : List UInt8) (hk : k.length = 16) : (Instr.buildSlice 40 1 #[(0, .agg (cellsB k).toArray)]).run Try.prog w = .ok (.slice (some ⟨w.heap.size, 0, none⟩) 1 1) (w.alloc (.cells (cellsB k).toArray 23)) := by
  obtain ⟨i0, hi0, hz0, hz1, hz2⟩ := info_parts key_info3
  have hl : (cellsB k).length = 16 := by rw [cellsB_length, hk]
  refine run_buildSlice (P := Try.prog) w 40 23 1 #[(0, .agg (cellsB k).toArray)] (cellsB k).toArray i0 (.agg (cellsB zeroK).toArray) Try.underlying40 hi0 hz0 (by rw [hz1]; omega) (by rw [hz1]; omega) ?_
  rw [hz1]
  obtain ⟨z, hz, hzs⟩ : ∃ z, Array.map (fun x => (Value.agg (cellsB zeroK).toArray).cells[x % (Value.agg (cellsB zeroK).toArray).cells.size]!) (Array.range (1 * 16)) = z ∧ z.size = 16 := ⟨_, rfl, by simp⟩
  rw [hz]
  rw [show (#[(0, Value.agg (cellsB k).toArray)] : Array (Nat × Value)).toList = [(0, .agg (cellsB k).toArray)] from rfl, fill_step _ z 0 0 16 _ (cellsB k) _ rfl rfl hl (by omega), Instr.fill]
  refine congrArg (fun l => some (List.toArray l)) ?_
  simp [List.drop_of_length_le, hzs]
theorem op_buildKey {ops : Array Oper} {Q : Exit → Act → World → Prop} {a : Act} {w : World} {i : Nat} {oi : Oper} {K : Act → World → Prop} (k : List UInt8) (x : Operand) (hk : k.length = 16) (hi : ops[i]? = some oi) (ho : oi.op = .buildSlice 40 1 #[(0, x)]) (hg : oi.guard = none) (hx : a.eval x = .agg (cellsB k).toArray)
    (h : K (a.put oi.dst (.slice (some ⟨w.heap.size, 0, none⟩) 1 1)) (w.alloc (.cells (cellsB k).toArray 23))) : wpOp Try.prog ops Q i K a w :=
  op_run _ _ hi hg (by
    unfold execOp
    rw [ho]
    simp only [List.map_toArray, List.map_cons, List.map_nil, hx, Sem.run_bind, run_build_key w k hk, Result.andThen_ok]
    rfl) h
end Go.Proofs.Ytinpiodfpnbllaa

/- A region that draws its order, whose operations only read but for one that waits for all the others (a store at the end): one walk of the text's order, then the last one. -/
namespace Go.Proofs.Ytinpiodfpnbllaa
open Go.RowKit
set_option linter.unusedVariables false

section
variable {P : Program} {ops : Array Oper} {md : Region.Mode} {C : World → Prop}

/-- Operation m waits for each other one that has not come up yet. -/
def waitsAll (md : Region.Mode) (ops : Array Oper) (m : Nat) (listed : Array Bool) : Prop := ∀ s, ops[m]? = some s → ∀ k, k ≠ m → listed.getD k true = false → ∃ e ∈ s.after, Region.binds md e = true ∧ e.on = k
def waitsAllB (md : Region.Mode) (ops : Array Oper) (m : Nat) (listed : Array Bool) : Bool := match ops[m]? with
  | none => true
  | some s => (List.range listed.size).all fun k => k == m || listed.getD k true || s.after.any fun e => Region.binds md e && e.on == k
theorem waitsAll_of {m : Nat} {listed : Array Bool} (h : waitsAllB md ops m listed = true) : waitsAll md ops m listed := by
  intro s hs k hk hl
  unfold waitsAllB at h
  rw [hs] at h
  have hlt : k < listed.size := by
    rcases Nat.lt_or_ge k listed.size with h' | h'
    · exact h'
    · simp [Array.getD, Nat.not_lt.2 h'] at hl
  have := List.all_eq_true.1 h k (List.mem_range.2 hlt)
  rw [hl] at this
  simp only [Bool.or_false, Bool.or_eq_true, beq_iff_eq] at this
  rcases this with h1 | h1
  · exact absurd h1 hk
  · obtain ⟨e, he, h2⟩ := Array.any_eq_true'.1 h1
    simp only [Bool.and_eq_true, beq_iff_eq] at h2
    exact ⟨e, he, h2.1, h2.2⟩
theorem waitsAll.set {m : Nat} {listed : Array Bool} (h : waitsAll md ops m listed) (j : Nat) : waitsAll md ops m (listed.setIfInBounds j true) := by
  intro s hs k hk hl
  refine h s hs k hk ?_
  by_cases hjk : j = k
  · subst hjk
    rcases Nat.lt_or_ge j listed.size with h' | h'
    · simp [Array.getD, h'] at hl
    · simp [Array.getD, Nat.not_lt.2 h'] at hl
  · rw [getD_set_ne true hjk] at hl; exact hl

/-- Whatever order is picked, up to the last one. -/
def wpAnyE (P : Program) (md : Region.Mode) (ops : Array Oper) (C : World → Prop) (m : Nat) (Q : Act → Prop) : Nat → Array Bool → Act → Prop
  | 0, _, _ => False
  | fuel + 1, listed, a => Region.ready md ops listed ≠ [] ∧ ∀ i ∈ Region.ready md ops listed, if i = m then Q a else qOp P ops C i (wpAnyE P md ops C m Q fuel (listed.setIfInBounds i true)) a

theorem ready_done {m : Nat} {listed : Array Bool} (hm : m ∈ Region.ready md ops listed) (hw : waitsAll md ops m listed) : Region.ready md ops (listed.setIfInBounds m true) = [] := by
  apply List.eq_nil_iff_forall_not_mem.2
  intro i hi
  obtain ⟨hun, oi, hoi, _⟩ := mem_ready.1 hi
  obtain ⟨hmun, om, hom, hall⟩ := mem_ready.1 hm
  by_cases him : i = m
  · subst him
    rcases Nat.lt_or_ge i listed.size with h' | h'
    · simp [Array.getD, h'] at hun
    · simp [Array.getD, Nat.not_lt.2 h'] at hun
  · rw [getD_set_ne true (Ne.symm him)] at hun
    obtain ⟨e, he, hb, hon⟩ := hw om hom i him hun
    have h1 := hall e he hb
    rw [hon] at h1
    rcases Nat.lt_or_ge i listed.size with h' | h'
    · simp [Array.getD, h'] at hun h1
      rw [hun] at h1; cases h1
    · simp [Array.getD, Nat.not_lt.2 h'] at hun

theorem wpAny_of_end {m : Nat} {Q : Act → Prop} {Q' : Exit → Act → World → Prop} (hQ : ∀ a w, C w → Q a → wpOp P ops Q' m (fun a' w' => Q' .normal a' w') a w) : ∀ (fuel : Nat) (listed : Array Bool) (a : Act) (w : World), C w → waitsAll md ops m listed →
    wpAnyE P md ops C m Q fuel listed a → wpAny P md ops Q' fuel listed a w
  | 0, _, _, _, _, _, h => h.elim
  | fuel + 1, listed, a, w, hw, hI, h => ⟨fun h0 => absurd h0 h.1, fun i hi => by
    have h2 := h.2 i hi
    by_cases him : i = m
    · subst him
      rw [if_pos rfl] at h2
      have h3 := hQ a w hw h2
      have hd := ready_done hi hI
      have hk : ∀ a' w', Q' .normal a' w' → wpAny P md ops Q' fuel (listed.setIfInBounds i true) a' w' := fun a' w' hq => by
        cases fuel with
        | zero => exact ⟨hd, hq⟩
        | succ f => exact ⟨fun _ => hq, fun j hj => by rw [hd] at hj; cases hj⟩
      unfold wpOp at h3 ⊢
      split
      · rename_i ho; simp only [ho] at h3; exact hk _ _ h3
      · rename_i o ho
        simp only [ho] at h3
        split
        · rename_i hwt; simp only [hwt, if_true] at h3; exact h3.imp (Oper.wp_mono hk) id
        · rename_i hwt; simp only [hwt] at h3; exact hk _ _ h3
    · rw [if_neg him] at h2
      exact wpOp_of_qOp hw (fun a' w' hw' => wpAny_of_end hQ fuel _ a' w' hw' (hI.set i)) h2⟩

theorem wpAnyE_first {m : Nat} {Q : Act → Prop} {i : Nat} {oi : Oper} {v : Value} (him : i ≠ m) (hi : ops[i]? = some oi) (hsel : ∀ (j : Nat) (o : Oper) cs b, ops[j]? = some o → o.op ≠ .select cs b) :
    ∀ (fuel : Nat) (listed : Array Bool) (a : Act), waitsAll md ops m listed →
      (∀ j oj, ops[j]? = some oj → j ≠ i → listed.getD j true = false → (∀ e ∈ oj.after, Region.binds md e = true → e.on ≠ i) → oi.apart ops oj = true) →
      i ∈ Region.ready md ops listed → YieldsIn P ops C oi v a →
      wpAnyE P md ops C m Q fuel (listed.setIfInBounds i true) (a.put oi.dst v) → wpAnyE P md ops C m Q (fuel + 1) listed a := by
  intro fuel
  induction fuel with
  | zero => intro listed a _ _ _ _ H; exact H.elim
  | succ fuel ih =>
    intro listed a hI hfree hr hy H
    refine ⟨fun h => (by rw [h] at hr; cases hr), fun j hj => ?_⟩
    by_cases hji : j = i
    · subst hji; rw [if_neg him]; exact hy.qOp hi H
    · have h1 := H.2 j (ready_mono hj hji)
      obtain ⟨hjun, oj, hoj, hall⟩ := mem_ready.1 hj
      have hnot : ∀ e ∈ oj.after, Region.binds md e = true → e.on ≠ i := fun e he hb heq => by
        have h1 := hall e he hb
        have h0 := (mem_ready.1 hr).1
        rw [heq] at h1
        rcases Nat.lt_or_ge i listed.size with h' | h'
        · simp [h'] at h0 h1; rw [h0] at h1; cases h1
        · simp [Array.getElem?_eq_none h'] at h1
      by_cases hjm : j = m
      · subst hjm
        obtain ⟨e, he, hb, hon⟩ := hI oj hoj i him (mem_ready.1 hr).1
        exact absurd hon (hnot e he hb)
      · rw [if_neg hjm] at h1 ⊢
        have h2 := qOp_put hoj (hfree j oj hoj hji hjun hnot) (fun cs b => hsel i oi cs b hi) (fun cs b => hsel j oj cs b hoj) hy h1
        have hfree' : ∀ k ok, ops[k]? = some ok → k ≠ i → (listed.setIfInBounds j true).getD k true = false →
            (∀ e ∈ ok.after, Region.binds md e = true → e.on ≠ i) → oi.apart ops ok = true := fun k ok hk hki hun hno => by
          refine hfree k ok hk hki ?_ hno
          by_cases hjk : j = k
          · subst hjk; exact hjun
          · rw [getD_set_ne true hjk] at hun; exact hun
        refine qOp_mono (fun a' h3 => ih (listed.setIfInBounds j true) a' (hI.set j) hfree' (ready_mono hr (Ne.symm hji)) h3.1 ?_) h2
        rw [Array.setIfInBounds_comm _ _ hji]
        exact h3.2

/-- The text's order, up to the last one, by a Bool. -/
def lexTo (md : Region.Mode) (ops : Array Oper) (m : Nat) : Nat → Nat → Array Bool → Bool
  | 0, _, listed => (Region.ready md ops listed) == [m]
  | fuel + 1, k, listed => k != m && (Region.ready md ops listed).contains k && Region.free md ops listed k && lexTo md ops m fuel (k + 1) (listed.setIfInBounds k true)

theorem wpAnyE_lex {m : Nat} {Q : Act → Prop} (hs : Region.noSelect ops = true) : ∀ (l : List Oper) (k : Nat) (listed : Array Bool) (a : Act), (∀ j, j < l.length → l[j]? = ops[k + j]?) → waitsAll md ops m listed →
    lexTo md ops m l.length k listed = true → wpQuiet P ops C Q l a → wpAnyE P md ops C m Q (l.length + 1) listed a
  | [], _, listed, _, _, _, hB, h => by
    have hr : Region.ready md ops listed = [m] := by simpa [lexTo] using hB
    exact ⟨by rw [hr]; simp, fun i hi => by rw [hr, List.mem_singleton] at hi; rw [if_pos hi]; exact h⟩
  | o :: l, k, listed, a, hl, hI, hB, h => by
    have h0 : ops[k]? = some o := by simpa using (hl 0 (by simp)).symm
    simp only [List.length_cons, lexTo, Bool.and_eq_true, bne_iff_ne, ne_eq] at hB
    obtain ⟨⟨⟨hkm, hr⟩, hf⟩, hB'⟩ := hB
    have hst : qOp P ops C k (wpQuiet P ops C Q l) a := by unfold qOp; simp only [h0]; exact h
    obtain ⟨v, hy, hK⟩ := yieldsIn_of_qOp h0 hst
    exact wpAnyE_first hkm h0 (Region.noSelect_spec hs) (l.length + 1) listed a hI (Region.free_spec h0 hf) (by simpa using hr) hy
      (wpAnyE_lex hs l (k + 1) _ _ (fun j hj => by have := hl (j + 1) (by simp; omega); simpa [Nat.add_assoc, Nat.add_comm 1 j] using this) (hI.set k) hB' hK)

/-- From a state in which some have come up already: the text's order up to operation m, then m. -/
theorem wpAny_end {m : Nat} {Q' : Exit → Act → World → Prop} {listed : Array Bool} {a : Act} {w : World} (l : List Oper) {fuel : Nat} (hf : fuel = l.length + 1) (hs : Region.noSelect ops = true) (hl : ops.toList.take l.length = l) (hI : waitsAllB md ops m listed = true) (hB : lexTo md ops m l.length 0 listed = true) (hC : C w)
    (h : wpQuiet P ops C (fun a' => ∀ w', C w' → wpOp P ops Q' m (fun a'' w'' => Q' .normal a'' w'') a' w') l a) : wpAny P md ops Q' fuel listed a w := by
  subst hf
  refine wpAny_of_end (fun a w hw hq => hq w hw) _ _ _ _ hC (waitsAll_of hI) (wpAnyE_lex hs l 0 listed a (fun j hj => ?_) (waitsAll_of hI) hB h)
  rw [Nat.zero_add, ← Array.getElem?_toList, ← hl, List.getElem?_take]
  have hj' := hj
  rw [← hl, List.length_take] at hj'
  simp [hj]
theorem wpOp_of_wp {Q : Exit → Act → World → Prop} {m : Nat} {o : Oper} {K : Act → World → Prop} {a : Act} {w : World} (ho : ops[m]? = some o) (hg : o.guard = none) (h : o.wp P a w K Q) : wpOp P ops Q m K a w := by
  unfold wpOp
  have hw : Region.wanted o (yielded ops a.tmps) = true := by simp [Region.wanted, hg]
  simp only [ho, hw, if_true]
  exact .inl h
/-- The last operation waits for all the others. -/
theorem wp_region_last {id : Nat} (m : Nat) {Q : Exit → Act → World → Prop} {a : Act} {w : World} (hm : P.follows .mixedOrders = true) (hsz : ops.size = m + 1) (hs : Region.noSelect ops = true) (hI : waitsAllB .any ops m (Array.replicate ops.size false) = true) (hB : lexTo .any ops m m 0 (Array.replicate ops.size false) = true) (hC : C w.drew)
    (h : wpQuiet P ops C (fun a' => ∀ w', C w' → wpOp P ops Q m (fun a'' w'' => Q .normal a'' w'') a' w') (ops.toList.take m) a) : (Code.region id ops true).wp P Q a w := by
  have hl : (ops.toList.take m).length = m := by rw [List.length_take, Array.length_toList, hsz]; omega
  exact wp_region_any hm (wpAny_end (C := C) (m := m) (ops.toList.take m) (by rw [hl, hsz]) hs (by rw [hl]) hI (by rw [hl]; exact hB) hC h)
theorem wpOp_store {Q : Exit → Act → World → Prop} {m : Nat} {o : Oper} {K : Act → World → Prop} {a : Act} {w : World} (g : Nat) (cells : Array Value) (ty : TypeId) (x y : Operand) (hi : ops[m]? = some o) (ho : o.op = .store ty x y) (hg : o.guard = none)
    (hx : a.eval x = .pointer (some ⟨g, 0, none⟩)) (hy : a.eval y = .agg cells) {t : TypeId} {old : Array Value} (hb : w.heap[g]? = some (.cells old t (0, 0))) (hn : (P.info? ty).map (·.size) = some cells.size) (hold : old.size = cells.size) (h1 : cells.all (·.oneCell') = true)
    (h : K (a.put o.dst undef) (w.setRow g cells)) : wpOp P ops Q m K a w :=
  wpOp_of_wp hi hg (wp_store_row ty x y ho g cells hx hy t old hb hn hold h1 h)
end
end Go.Proofs.Ytinpiodfpnbllaa
