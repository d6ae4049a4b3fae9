/-
  Lemmas and contracts, joined.
-/
import Derived.Lib.AppendZeros
import Derived.Test.YtinpiodfpnbllaaGreatDoorAuB4
import Derived.Test.YtinpiodfpnbllaaGreatDoorAuC3
import Derived.Test.YtinpiodfpnbllaaGreatDoorAuO1
import Derived.Test.YtinpiodfpnbllaaGreatDoorAuB3
import Derived.Test.YtinpiodfpnbllaaGreatDoorAuB2
import Derived.Test.YtinpiodfpnbllaaGreatDoorAuB1
import Derived.Test.YtinpiodfpnbllaaGreatDoorAuE1
import Derived.Test.YtinpiodfpnbllaaGreatDoorAuB5
set_option linter.unusedSimpArgs false
set_option linter.unusedVariables false
set_option linter.unnecessarySimpa false
/- The chapter's examples of audits in plain words: the values. -/
namespace Go.Proofs.YtinpiodfpnbllaaGreatDoor
open Go.RowKit
set_option linter.unusedVariables false
set_option linter.unusedSimpArgs false

def l3 : List (List UInt8) := [keyN 1, keyN 2, keyN 3]
def l4 : List (List UInt8) := [keyN 1, keyN 2, keyN 3, keyN 4]
theorem sp2 : splitS 2 = 1 := by decide +kernel
theorem sp3 : splitS 3 = 2 := by decide +kernel
theorem sp4 : splitS 4 = 2 := by decide +kernel
theorem rtS_small {ks : List (List UInt8)} (h : ks.length ≤ 128) : rtS ks = (rootS ks, 0) := by unfold rtS; rw [if_neg (by omega)]
theorem x_none : rtS [] = (digS [], 0) := by rw [rtS_small (by simp), rootS_nil]
theorem x_one : rtS [keyN 1] = (digS ([0] ++ keyN 1), 0) := by rw [rtS_small (by simp), rootS_one]; rfl
theorem x_many (ks : List (List UInt8)) (h : ks.length = 129) : rtS ks = (zeroK, 4) := by unfold rtS; rw [if_pos (by omega)]
theorem x_path0 : pathS l3 0 = [rootS [keyN 2], rootS [keyN 3]] := by
  unfold l3
  rw [pathS_low (by simp) (by show 0 < splitS 3; rw [sp3]; omega)]
  show pathS (([keyN 1, keyN 2, keyN 3] : List (List UInt8)).take (splitS 3)) 0 ++ [rootS (([keyN 1, keyN 2, keyN 3] : List (List UInt8)).drop (splitS 3))] = _
  rw [sp3]
  show pathS [keyN 1, keyN 2] 0 ++ [rootS [keyN 3]] = _
  rw [pathS_low (by simp) (by show 0 < splitS 2; rw [sp2]; omega)]
  show (pathS (([keyN 1, keyN 2] : List (List UInt8)).take (splitS 2)) 0 ++ [rootS (([keyN 1, keyN 2] : List (List UInt8)).drop (splitS 2))]) ++ [rootS [keyN 3]] = _
  rw [sp2]
  show (pathS [keyN 1] 0 ++ [rootS [keyN 2]]) ++ [rootS [keyN 3]] = _
  rw [pathS_one (by simp)]
  rfl
theorem x_path2 : pathS l3 2 = [rootS [keyN 1, keyN 2]] := by
  unfold l3
  rw [pathS_high (by simp) (by show ¬ 2 < splitS 3; rw [sp3]; omega)]
  show pathS (([keyN 1, keyN 2, keyN 3] : List (List UInt8)).drop (splitS 3)) (2 - splitS 3) ++ [rootS (([keyN 1, keyN 2, keyN 3] : List (List UInt8)).take (splitS 3))] = _
  rw [sp3]
  show pathS [keyN 3] 0 ++ [rootS [keyN 1, keyN 2]] = _
  rw [pathS_one (by simp)]
  rfl
theorem x_prove0 : proveS l3 0 = ⟨3, 0, [rootS [keyN 2], rootS [keyN 3]], 0⟩ := by
  rw [← x_path0]
  unfold proveS
  rw [if_neg (by simp [l3]), if_neg (by simp [l3])]
  rfl
theorem x_prove2 : proveS l3 2 = ⟨3, 2, [rootS [keyN 1, keyN 2]], 0⟩ := by
  rw [← x_path2]
  unfold proveS
  rw [if_neg (by simp [l3]), if_neg (by simp [l3])]
  rfl
theorem x_part32 : (partS l3 2 true).length = 1 := by
  unfold l3
  rw [partS_low true (by simp) (by simp) (by show 2 ≤ splitS 3; rw [sp3]; omega)]
  show (partS (([keyN 1, keyN 2, keyN 3] : List (List UInt8)).take (splitS 3)) 2 true ++ _).length = 1
  rw [sp3]
  show (partS [keyN 1, keyN 2] ([keyN 1, keyN 2] : List (List UInt8)).length true ++ _).length = 1
  rw [partS_end]
  rfl
theorem x_part31 : (partS l3 1 true).length = 2 := by
  unfold l3
  rw [partS_low true (by simp) (by simp) (by show 1 ≤ splitS 3; rw [sp3]; omega)]
  show (partS (([keyN 1, keyN 2, keyN 3] : List (List UInt8)).take (splitS 3)) 1 true ++ _).length = 2
  rw [sp3]
  show (partS [keyN 1, keyN 2] 1 true ++ _).length = 2
  rw [partS_low true (by simp) (by simp) (by show 1 ≤ splitS 2; rw [sp2]; omega)]
  show ((partS (([keyN 1, keyN 2] : List (List UInt8)).take (splitS 2)) 1 true ++ _) ++ _).length = 2
  rw [sp2]
  show ((partS [keyN 1] ([keyN 1] : List (List UInt8)).length true ++ _) ++ _).length = 2
  rw [partS_end]
  rfl
theorem x_part43 : (partS l4 3 true).length = 3 := by
  unfold l4
  rw [partS_high true (by simp) (by simp) (by show ¬ 3 ≤ splitS 4; rw [sp4]; omega)]
  show (partS (([keyN 1, keyN 2, keyN 3, keyN 4] : List (List UInt8)).drop (splitS 4)) (3 - splitS 4) false ++ _).length = 3
  rw [sp4]
  show (partS [keyN 3, keyN 4] 1 false ++ _).length = 3
  rw [partS_low false (by simp) (by simp) (by show 1 ≤ splitS 2; rw [sp2]; omega)]
  show ((partS (([keyN 3, keyN 4] : List (List UInt8)).take (splitS 2)) 1 false ++ _) ++ _).length = 3
  rw [sp2]
  show ((partS [keyN 3] ([keyN 3] : List (List UInt8)).length false ++ _) ++ _).length = 3
  rw [partS_end]
  rfl
theorem x_grow32 : growthS l3 2 = ⟨2, 3, partS l3 2 true, 0⟩ := by unfold growthS; rw [if_neg (by simp [l3]), if_neg (by simp [l3])]; rfl
theorem x_grow31 : growthS l3 1 = ⟨1, 3, partS l3 1 true, 0⟩ := by unfold growthS; rw [if_neg (by simp [l3]), if_neg (by simp [l3])]; rfl
theorem x_grow43 : growthS l4 3 = ⟨3, 4, partS l4 3 true, 0⟩ := by unfold growthS; rw [if_neg (by simp [l4]), if_neg (by simp [l4])]; rfl
theorem x_texts : (textsR l3).1.length = 5 ∧ (textsR l3).2 = 0 := by
  have e : textsR l3 = (textsS l3, 0) := by unfold textsR; rw [if_neg (by simp [l3])]
  rw [e]
  refine ⟨?_, rfl⟩
  unfold l3
  rw [textsS_node (by simp)]
  show (textsS (([keyN 1, keyN 2, keyN 3] : List (List UInt8)).take (splitS 3)) ++ (textsS (([keyN 1, keyN 2, keyN 3] : List (List UInt8)).drop (splitS 3)) ++ [_])).length = 5
  rw [sp3]
  show (textsS [keyN 1, keyN 2] ++ (textsS [keyN 3] ++ [_])).length = 5
  rw [textsS_node (l := [keyN 1, keyN 2]) (by simp)]
  show ((textsS (([keyN 1, keyN 2] : List (List UInt8)).take (splitS 2)) ++ (textsS (([keyN 1, keyN 2] : List (List UInt8)).drop (splitS 2)) ++ [_])) ++ (textsS [keyN 3] ++ [_])).length = 5
  rw [sp2]
  show ((textsS [keyN 1] ++ (textsS [keyN 2] ++ [_])) ++ (textsS [keyN 3] ++ [_])).length = 5
  rw [textsS_one, textsS_one, textsS_one]
  rfl
theorem x_pt (X : List UInt8) : (ptS (keyN 3) 3 2 [X]).1.length = 2 ∧ (ptS (keyN 3) 3 2 [X]).2 = 0 := by
  have hf : fitsB 3 2 ([X] : List (List UInt8)).length = true := by show fitsB 3 2 1 = true; decide +kernel
  unfold ptS
  rw [if_pos hf]
  refine ⟨?_, rfl⟩
  show (climbS (keyN 3) 3 2 [X]).2.length = 2
  rw [climbS_high (keyN 3) [X] (by omega) (by rw [sp3]; omega), sp3]
  dsimp only
  rw [climbS_one (keyN 3) (by omega)]
  rfl
def mE : List Ent := [(1, 5), (2, 9), (3, 2)]
theorem x_off0 : (offS mE 0).e = 0 ∧ (offS mE 0).lo = (-1, 0) ∧ (offS mE 0).hi = (1, 5) := by
  have h1 : validL mE = true := by decide +kernel
  have h2 : hitE (endedE mE) 0 = false := by decide +kernel
  unfold offS
  rw [if_neg (by rw [h1]; simp), if_neg (by omega), if_neg (by rw [h2]; simp)]
  exact ⟨rfl, by decide +kernel, by decide +kernel⟩
theorem x_off2 : offS mE 2 = offZ 6 := by
  have h1 : validL mE = true := by decide +kernel
  have h2 : hitE (endedE mE) 2 = true := by decide +kernel
  unfold offS
  rw [if_neg (by rw [h1]; simp), if_neg (by omega), if_pos h2]
theorem x_on : (onS mE 2).e = 0 ∧ (onS mE 2).x = (2, 9) ∧ (onS mE 2).a = 5 ∧ (onS mE 2).b = 2 := by
  have h1 : validL mE = true := by decide +kernel
  have h2 : hitE (endedE mE) 2 = true := by decide +kernel
  unfold onS
  rw [if_neg (by rw [h1]; simp), if_neg (by omega), if_neg (by rw [h2]; simp)]
  exact ⟨rfl, by decide +kernel, rfl, by decide +kernel⟩
theorem x_m0 : mcS 3 0 = (lowS 1 1, 0) := by kernel_rfl
theorem x_m1 : mcS 3 4 = (lowS 0 1, 0) := by kernel_rfl
theorem x_m2 : mcS 0 0 = (lowS 1 1, 0) := by kernel_rfl
theorem x_m3 : mcS 65 0 = (([], []), 2) := by kernel_rfl
/-- The examples' case with another root; kept shut. -/
def voidV (R : List UInt8) : CV := ⟨R, exK, 3, 1, pathS exL 1, [0, 1, 2, 0], 3, true, [0, 1, 1, 0], keyN 4⟩
def shutV : CV := ⟨rootS exL, exK, 3, 1, pathS exL 1, [0, 1, 2, 0], 3, false, [0, 1, 1, 0], keyN 4⟩
theorem x_climb : (climbS exK 3 1 (pathS exL 1)).1 = rootS exL := by
  have := climb_path 3 exL 1 rfl (by omega)
  have e : exL.getD 1 [] = exK := by simp only [exL, List.getD_cons_succ, List.getD_cons_zero]
  rwa [e] at this
theorem x_void {R : List UInt8} (h : R ≠ rootS exL) : judgeS (voidV R) = (1, 0) := by
  refine judge_1 (fitB_iff.2 ⟨exCopy, (by show (1 : Int) ≤ 3; omega), (by show (3 : Int) ≤ 4; omega), by show fitsB 3 1 (pathS exL 1).length = true; rw [ex_path]; exact ex_fits⟩) ?_
  show ((climbS exK 3 1 (pathS exL 1)).1 == R) = false
  rw [x_climb]
  simp only [beq_eq_false_iff_ne]
  exact fun e => h e.symm
theorem x_shut : judgeS shutV = (2, 0) := by
  refine judge_2 (fitB_iff.2 ⟨exCopy, (by show (1 : Int) ≤ 3; omega), (by show (3 : Int) ≤ 4; omega), by show fitsB 3 1 (pathS exL 1).length = true; rw [ex_path]; exact ex_fits⟩) ?_ ?_
  · show ((climbS exK 3 1 (pathS exL 1)).1 == rootS exL) = true
    rw [x_climb]
    exact beq_self_eq_true _
  · unfold opensB shutV
    rfl
end Go.Proofs.YtinpiodfpnbllaaGreatDoor

/- Two equal lists of keys are the same. -/
namespace Go.Proofs.YtinpiodfpnbllaaGreatDoor
open Go.RowKit
set_option linter.unusedVariables false
attribute [local go_sem] equalIn_keys

set_option maxHeartbeats 1000000 in
set_option maxRecDepth 100000 in
theorem sameKeys_any (ks : List (List UInt8)) (A : Option Addr) (c : Nat) (B : Option Addr) (d : Nat) (w : World) {n : Nat} (hn : ks.length = n) (h : KR w A c ks) (h' : KR w B d ks) :
    Calls Tryz.prog 44 #[.slice A n c, .slice B n d] w fun e w' => e = .returned (.bool true) ∧ Below w.heap.size w w' := by
  have hnl : (n : Int) ≤ 140737488351232 := by have := h.len; omega
  have HN := Lib.hid hn
  have H := Lib.hid h
  have H' := Lib.hid h'
  clear hn h h'
  go_enter Tryz.func44, Tryz.ntmps44
  go_wp2_with fail
  go_loopw [5] (fun vi wr => ∃ i : Nat, i ≤ n ∧ vi = .int .i64 (i : Int) ∧ Below w.heap.size w wr) (fun vi _ => n - (intOf vi).toNat)
  case atStart => exact ⟨0, by omega, rfl, Below.refl _ _⟩
  case round =>
    obtain ⟨i, hi, rfl, hbel⟩ := hrel
    by_cases hlt : i < n
    · have hii : (i : Int) < n := by omega
      have hil : i < ks.length := by have := HN.out; omega
      obtain ⟨g1, o1, rfl, hg1, hr1⟩ := (H.out.below hbel).at_ hil
      obtain ⟨g2, o2, rfl, hg2, hr2⟩ := (H'.out.below hbel).at_ hil
      have hk : ks[i].length = 16 := H.out.2 _ (List.getElem_mem hil)
      have HR1 := Lib.hid (range_below hr1 (Below.refl _ _).drew)
      have HR2 := Lib.hid (range_below hr2 (Below.refl _ _).drew)
      obtain ⟨k, hkk⟩ : ∃ k, ks[i] = k := ⟨_, rfl⟩
      rw [hkk] at HR1 HR2 hk
      have HK := Lib.hid hk
      have hz : ∀ W, (Op.equalIn 10000 24 (.agg (cellsB k).toArray) (.agg (cellsB k).toArray)).run Tryz.prog W = .ok true W := fun W => by rw [equalIn_keys W k k HK.out HK.out]; simp
      clear hr1 hr2 hk hkk hil
      go_wp2_with fail
      refine wp_region_noPanic ?_
      refine wp_region_held_drew (S := fun w' => w'.rangeAt g1 (o1 + i * 16) (cellsB k) ∧ w'.rangeAt g2 (o2 + i * 16) (cellsB k)) (by kernel_rfl) ⟨HR1.out, HR2.out⟩ (fun hS => ?_)
      refine hd_take 0 (.slice (some ⟨g1, o1, none⟩) n c) rfl rfl (by kernel_rfl) (by kernel_rfl) (by kernel_rfl) (fun _ _ _ h => h) (fun w _ => by go_simp) hS ?_
      refine hd_take 1 (.int .i64 (i : Int)) rfl rfl (by kernel_rfl) (by kernel_rfl) (by kernel_rfl) (fun _ _ _ h => h) (fun w _ => by go_simp) hS ?_
      refine hd_take 4 (.slice (some ⟨g2, o2, none⟩) n d) rfl rfl (by kernel_rfl) (by kernel_rfl) (by kernel_rfl) (fun _ _ _ h => h) (fun w _ => by go_simp) hS ?_
      refine hd_take 5 (.int .i64 (i : Int)) rfl rfl (by kernel_rfl) (by kernel_rfl) (by kernel_rfl) (fun _ _ _ h => h) (fun w _ => by go_simp) hS ?_
      simp only [List.getElem_toArray, List.getElem_cons_succ, List.getElem_cons_zero, Act.put, List.setIfInBounds_toArray, List.set_cons_zero, List.set_cons_succ]
      refine hd_take 2 (.pointer (some ⟨g1, o1 + i * 16, none⟩)) rfl rfl (by kernel_rfl) (by kernel_rfl) (by kernel_rfl) (fun _ _ _ h => h) (fun w _ => by go_simp) hS ?_
      refine hd_take 6 (.pointer (some ⟨g2, o2 + i * 16, none⟩)) rfl rfl (by kernel_rfl) (by kernel_rfl) (by kernel_rfl) (fun _ _ _ h => h) (fun w _ => by go_simp) hS ?_
      simp only [List.getElem_toArray, List.getElem_cons_succ, List.getElem_cons_zero, Act.put, List.setIfInBounds_toArray, List.set_cons_zero, List.set_cons_succ]
      refine hd_load 3 g1 (o1 + i * 16) (cellsB k) _ _ rfl rfl rfl (by kernel_rfl) (by kernel_rfl) (by kernel_rfl) (fun _ _ _ h => h) rfl (fun w hw => hw.1) under_key rfl (key_info HK.out) hS ?_
      simp only [List.getElem_toArray, List.getElem_cons_succ, List.getElem_cons_zero, Act.put, List.setIfInBounds_toArray, List.set_cons_zero, List.set_cons_succ]
      refine hd_load 7 g2 (o2 + i * 16) (cellsB k) _ _ rfl rfl rfl (by kernel_rfl) (by kernel_rfl) (by kernel_rfl) (fun _ _ _ h => h) rfl (fun w hw => hw.2) under_key rfl (key_info HK.out) hS ?_
      simp only [List.getElem_toArray, List.getElem_cons_succ, List.getElem_cons_zero, Act.put, List.setIfInBounds_toArray, List.set_cons_zero, List.set_cons_succ]
      refine hd_take 8 (.bool false) rfl rfl (by kernel_rfl) (by kernel_rfl) (by kernel_rfl) (fun _ _ _ h => h) (fun w _ => by go_simp) hS ?_
      refine wpAnyH_done (by kernel_rfl) (NoPanic.normal ?_) _
      simp only [List.getElem_toArray, List.getElem_cons_succ, List.getElem_cons_zero, Act.put, List.setIfInBounds_toArray, List.set_cons_zero, List.set_cons_succ]
      go_wp2_with fail
      go_roundw
      case rel => exact ⟨i + 1, by omega, by go_num, hbel.drew⟩
      case measure => simp [intOf]; omega
    · obtain rfl : i = n := by omega
      have hii : (i : Int) ≤ i := Int.le_refl _
      go_wp2_with fail
      go_ret
      exact ⟨rfl, hbel⟩
end Go.Proofs.YtinpiodfpnbllaaGreatDoor

/- The law AuditExamples: the walk. -/
namespace Go.Proofs.YtinpiodfpnbllaaGreatDoor
open Go.RowKit
set_option linter.unusedVariables false
set_option linter.unusedSimpArgs false
attribute [local go_sem] equalIn_keys

section
variable {md : Region.Mode} {ops : Array Oper} {Q : Exit → Act → World → Prop} {S : World → Prop} {fuel : Nat} {listed : Array Bool} {a : Act} {w : World}
theorem hg_appendB (i : Nat) {oi : Oper} (s x : Operand) (hi : ops[i]? = some oi) (ho : oi.op = .call { callee := .builtin .append, args := #[s, x], argTypes := #[22, 22] }) (hg : Region.wanted oi (yielded ops a.tmps) = true) (hr : Region.ready md ops listed = [i])
    (B : Nat) (A : Option Addr) (n c : Nat) (l : List UInt8) (hn : l.length = n) (hs : a.eval s = .slice A n c) (hown : OB B w A c l)
    (X : Option Addr) (m d : Nat) (news : List UInt8) (hm : news.length = m) (hx : a.eval x = .slice X m d) (hsrc : Src w 1 X m (cellsB news)) (hlen : n + m ≤ 140737488351232) (hB : B ≤ w.heap.size)
    (h : ∀ A' c' w', OB B w' A' c' (l ++ news) → Below B w w' → S w' ∧ wpAnyH Tryz.prog md ops Q S fuel (listed.setIfInBounds i true) (a.put oi.dst (.slice A' (n + m) c')) w') : wpAnyH Tryz.prog md ops Q S (fuel + 1) listed a w := by
  obtain ⟨i0, hi0, hz0, hz1, hz2⟩ := info_parts u8_info'
  subst hn hm
  obtain ⟨A', c', w', hrun, h2, h3, h4⟩ := run_append_src (P := Tryz.prog) w B 22 oi.type 5 i0 (.int .u8 0) 1 1 Tryz.underlying22 hi0 hz0 hz1 hz2 rfl (by omega) A l.length c (cellsB l) hown X news.length d (cellsB news) hsrc (cellsB_one _) (by simp only [maxLen]; omega) (by omega) hB
  refine wpAnyH_all hr (by simp) fun j hj => ?_
  rw [List.mem_singleton] at hj
  subst hj
  unfold wpOp
  simp only [hi, hg, if_true]
  refine .inl ?_
  refine Lib.wp_append_run w s x 22 22 ho _ _ hs hx _ w' hrun ?_
  refine h A' c' w' ?_ (grown_below (Below.refl _ _) hown h3 hB (Nat.le_refl _))
  unfold OB
  rw [cellsB_append, List.length_append]
  exact h2
end
theorem x_prune : prS mE 5 = ([(1, 5), (2, 9)], 0) := by decide +kernel
theorem wpList_build_keysG {ops : Array Oper} {rest : List Oper} {o : Oper} {a : Act} {w : World} {Q : Exit → Act → World → Prop} (hgd : Region.wanted o (yielded ops a.tmps) = true) (n : Nat) (parts : Array (Nat × Operand)) (ho : o.op = .buildSlice 25 n parts) (ks : List (List UInt8)) (h : Keys16 ks) (hn : ks.length = n) (h0 : 0 < n) (h1 : n ≤ 1000)
    (hx : (parts.map fun (i, x) => (i, a.eval x)).toList = keyParts ks 0)
    (hh : wpList Tryz.prog ops Q rest (a.put o.dst (.slice (some ⟨w.heap.size, 0, none⟩) n n)) (w.alloc (.cells (cellsK ks).toArray 24))) : wpList Tryz.prog ops Q (o :: rest) a w :=
  BigFrame.wpList_want hgd fun K hK => by
    unfold Oper.wp execOp
    rw [ho]
    simp only [Sem.run_bind, run_build_keys w ks h hn h0 h1 _ hx, Result.andThen_ok]
    exact hK _ _ hh
theorem range_src {W : World} {g : Nat} {k : List UInt8} (h : W.rangeAt g 0 (cellsB k)) {n : Nat} (hn : k.length = n) : Src W 1 (some ⟨g, 0, none⟩) n (cellsB k) := ⟨by rw [cellsB_length, hn, Nat.mul_one], .inr ⟨_, rfl, fun j u hu => by
  have h1 := h j u hu
  rw [Nat.zero_add] at h1
  by_cases hj : j = 0
  · subst hj; simpa [Addr.add] using h1
  · simpa [Addr.add, hj] using h1⟩⟩
/-- The opened root with its first bit turned. -/
def turnK (k : List UInt8) : List UInt8 := k.set 0 (k.getD 0 0 ^^^ 1)
theorem turnK_length (k : List UInt8) : (turnK k).length = k.length := by simp [turnK]
theorem turnK_ne {k : List UInt8} (h : k.length = 16) : turnK k ≠ k := fun e => by
  have h1 : (turnK k).getD 0 0 = k.getD 0 0 ^^^ 1 := by
    unfold turnK
    rw [List.getD_eq_getElem?_getD, List.getElem?_set_self (by omega)]
    rfl
  rw [e] at h1
  generalize k.getD 0 0 = x at h1
  have : x ^^^ x = x ^^^ (x ^^^ 1) := by rw [← h1]
  rw [← UInt8.xor_assoc, UInt8.xor_self, UInt8.zero_xor] at this
  exact absurd this (by decide)
theorem void_cells (A : Option Addr) (c : Nat) (Y : Option Addr) (y : Nat) (H : Option Addr) (h : Nat) : (caseC (exV 3) A 2 c Y 4 y H 4 h).toArray.setIfInBounds 0 (.int .u8 (((rootS exL).getD 0 0 ^^^ 1).toNat : Int)) = (caseC (voidV (turnK (rootS exL))) A 2 c Y 4 y H 4 h).toArray := by
  rw [List.setIfInBounds_toArray]
  congr 1
  show (cellsB (rootS exL) ++ _).set 0 _ = cellsB (turnK (rootS exL)) ++ _
  rw [List.set_append_left _ _ (by rw [cellsB_length, rootS_length]; omega)]
  unfold turnK
  rw [cellsB_set]
  rfl
theorem shut_cells (A : Option Addr) (c : Nat) (Y : Option Addr) (y : Nat) (H : Option Addr) (h : Nat) : (caseC (exV 3) A 2 c Y 4 y H 4 h).toArray.setIfInBounds 37 (.bool false) = (caseC shutV A 2 c Y 4 y H 4 h).toArray := by
  rw [List.setIfInBounds_toArray]
  congr 1
  show (cellsB (rootS exL) ++ (cellsB exK ++ (caseM (exV 3) A 2 c Y 4 y H 4 h ++ cellsB (keyN 4)))).set 37 _ = cellsB (rootS exL) ++ (cellsB exK ++ (caseM shutV A 2 c Y 4 y H 4 h ++ cellsB (keyN 4)))
  have h1 : (cellsB (rootS exL)).length = 16 := by rw [cellsB_length, rootS_length]
  have h2 : (cellsB exK).length = 16 := by rw [cellsB_length, exK_length]
  rw [List.set_append_right _ _ (by omega), h1, List.set_append_right _ _ (by omega), h2]
  rfl
theorem ex_cell0 (A : Option Addr) (c : Nat) (Y : Option Addr) (y : Nat) (H : Option Addr) (h : Nat) : (caseC (exV 3) A 2 c Y 4 y H 4 h).toArray[0]? = some (.int .u8 (((rootS exL).getD 0 0).toNat : Int)) := by
  have h1 : 0 < (rootS exL).length := by rw [rootS_length]; omega
  show ((cellsB (rootS exL) ++ _).toArray)[0]? = _
  rw [List.getElem?_toArray, List.getElem?_append_left (by rw [cellsB_length]; omega), cellsB_get _ 0 h1]
  simp [List.getD_eq_getElem?_getD, List.getElem?_eq_getElem h1]
theorem ex_cell37 (A : Option Addr) (c : Nat) (Y : Option Addr) (y : Nat) (H : Option Addr) (h : Nat) : (caseC (exV 3) A 2 c Y 4 y H 4 h).toArray[37]? = some (.bool true) := by
  have h1 : (cellsB (rootS exL)).length = 16 := by rw [cellsB_length, rootS_length]
  have h2 : (cellsB exK).length = 16 := by rw [cellsB_length, exK_length]
  show ((cellsB (rootS exL) ++ (cellsB exK ++ (caseM (exV 3) A 2 c Y 4 y H 4 h ++ cellsB (keyN 4)))).toArray)[37]? = _
  rw [List.getElem?_toArray, List.getElem?_append_right (by omega), h1, List.getElem?_append_right (by omega), h2]
  rfl
theorem void_ok {W : World} {A : Option Addr} {c : Nat} {Y : Option Addr} {y : Nat} {H : Option Addr} {h : Nat} (g : CaseOK W (exV 3) A 2 c Y 4 y H 4 h) : CaseOK W (voidV (turnK (rootS exL))) A 2 c Y 4 y H 4 h :=
  ⟨by show (turnK (rootS exL)).length = 16; rw [turnK_length, rootS_length], g.c16, g.n16, g.hm, g.hn, g.hk, g.P, g.cp, g.half⟩
theorem shut_ok {W : World} {A : Option Addr} {c : Nat} {Y : Option Addr} {y : Nat} {H : Option Addr} {h : Nat} (g : CaseOK W (exV 3) A 2 c Y 4 y H 4 h) : CaseOK W shutV A 2 c Y 4 y H 4 h := ⟨g.r16, g.c16, g.n16, g.hm, g.hn, g.hk, g.P, g.cp, g.half⟩
theorem twoboxes_ (w : World) (c0 c1 z0 z1 : Array Value) (t0 t1 : TypeId) {W : World} (hW : W = ((((w.alloc (.cells z0 t0)).alloc (.cells z1 t1)).setRow w.heap.size c0).setRow (w.heap.size + 1) c1)) :
    Below w.heap.size w W ∧ Blk W w.heap.size t0 c0 ∧ Blk W (w.heap.size + 1) t1 c1 := by
  subst hW
  refine ⟨below_setRow (below_setRow (alloc2_bel w _ _) (Nat.le_refl _) _) (by omega) _, ?_, ?_⟩
  · exact (setRow_other _ _ _ _ (by omega)).trans ((blk_b0 w z0 t0 _).setRow c0)
  · have h1 : Blk (((w.alloc (.cells z0 t0)).alloc (.cells z1 t1)).setRow w.heap.size c0) (w.heap.size + 1) t1 z1 := (setRow_other _ _ _ _ (by omega)).trans (blk_b1 w _ z1 t1)
    exact h1.setRow c1
theorem blk_next_ (w : World) (c0 z0 z1 : Array Value) (t0 t1 : TypeId) : Blk (((w.alloc (.cells z0 t0)).alloc (.cells z1 t1)).setRow w.heap.size c0) (w.heap.size + 1) t1 z1 := (setRow_other _ _ _ _ (by omega)).trans (blk_b1 w _ z1 t1)
theorem made_zero (m : Nat) : madeCells (cellsB zeroK).toArray m = (List.replicate m (Value.int .u8 0)).toArray := by
  have hz : (cellsB zeroK).toArray = (List.replicate 16 (Value.int .u8 0)).toArray := rfl
  rw [hz]
  unfold madeCells
  refine Array.ext (by simp) fun j h1 h2 => ?_
  simp only [Array.getElem_map, Array.getElem_range, List.getElem_toArray, List.getElem_replicate, List.size_toArray, List.length_replicate]
  have h3 : j % 16 < 16 := Nat.mod_lt _ (by omega)
  rw [getElem!_pos _ _ (by simpa using h3), List.getElem_toArray, List.getElem_replicate]
theorem zeros_cells : ∀ n : Nat, cellsK (List.replicate n zeroK) = List.replicate (n * 16) (Value.int .u8 0)
  | 0 => rfl
  | n + 1 => by
    have e : cellsK (List.replicate (n + 1) zeroK) = cellsB zeroK ++ cellsK (List.replicate n zeroK) := rfl
    have hz : cellsB zeroK = List.replicate 16 (Value.int .u8 0) := rfl
    rw [e, zeros_cells n, hz, List.replicate_append_replicate]
    congr 1
    omega
theorem make_129 (W : World) : (Instr.makeSlice 25 (.int .i64 129) (.int .i64 129)).run Tryz.prog W = .ok (.slice (some ⟨W.heap.size, 0, none⟩) 129 129) (W.alloc (.cells (cellsK (List.replicate 129 zeroK)).toArray 24)) := by
  obtain ⟨i0, hi0, hz0, hz1, hz2⟩ := info_parts key_info3
  have := run_make (P := Tryz.prog) W 25 24 i0 (.agg (cellsB zeroK).toArray) Tryz.underlying25 hi0 hz0 .i64 .i64 129 129 (by omega) (by omega) (by rw [hz2]; omega) (by omega)
  rw [hz1] at this
  rw [show madeCells (Value.agg (cellsB zeroK).toArray).cells ((129 : Int).toNat * 16) = (cellsK (List.replicate 129 zeroK)).toArray from (made_zero _).trans (by rw [zeros_cells 129]; rfl)] at this
  exact this
theorem l4_16 : Keys16 l4 := fun k hk => by
  simp only [l4, List.mem_cons, List.not_mem_nil, or_false] at hk
  rcases hk with rfl | rfl | rfl | rfl <;> exact keyN_length _
theorem KR.none_ (W : World) : KR W none 0 [] := ⟨Rd.nil W 16, fun k hk => by cases hk⟩
theorem BR.none_ (W : World) : BR W none 0 [] := Rd.nil W 1
theorem kr_mid {W : World} {g c : Nat} {ks : List (List UInt8)} (h : KR W (some ⟨g, 0, none⟩) c ks) {i : Nat} (hi : i + 1 ≤ ks.length) {k : List UInt8} (hk : ks[i]? = some k) (hc : i < c) (h0 : 0 < i) : KR W (some ⟨g, i * 16, none⟩) (c - i) [k] := by
  have h1 := (h.drop i (by omega)).take 1 (by rw [List.length_drop]; omega)
  have e : (ks.drop i).take 1 = [k] := by
    have hi2 : i < ks.length := by omega
    rw [List.drop_eq_getElem_cons hi2]
    rw [List.getElem?_eq_getElem hi2] at hk
    injection hk with hk
    simp [hk]
  rw [e] at h1
  unfold dropK at h1
  rw [if_neg (by omega)] at h1
  have h2 : ¬ i * 16 = 0 := by omega
  simpa [Addr.add, h2] using h1
set_option maxHeartbeats 16000000 in
set_option maxRecDepth 1000000 in
theorem auditExamples_walk (w : World) (hT : TestsIn w) : Calls Tryz.prog 17 #[] w fun e w' => e = .returned (.bool true) ∧ Below w.heap.size w w' := by
  have HRN : Hid (∀ W, Calls Tryz.prog 27 #[.slice none 0 0] W fun e w' => e = .returned (.tuple #[.agg (cellsB (digS [])).toArray, .int .i64 0]) ∧ Below W.heap.size W w') := fun W => by
      have := Root_any [] none 0 W rfl (KR.none_ W)
      rwa [x_none] at this
  have HR1 : Hid (∀ W g, KR W (some ⟨g, 0, none⟩) 4 l4 → Calls Tryz.prog 27 #[.slice (some ⟨g, 0, none⟩) 1 4] W fun e w' => e = .returned (.tuple #[.agg (cellsB (digS ([0] ++ keyN 1))).toArray, .int .i64 0]) ∧ Below W.heap.size W w') := fun W g h => by
      have := Root_any [keyN 1] _ _ W rfl (h.take 1 (by simp [l4]))
      rwa [x_one] at this
  have HD0 : Hid (∀ W, Calls Tryz.prog 38 #[.slice none 0 0] W fun e w' => e = .returned (.agg (cellsB (digS [])).toArray) ∧ Below W.heap.size W w') := fun W => lawDigest_any [] none 0 W (L := 0) rfl (BR.none_ W) (by omega)
  have HD1 : Hid (∀ W A c, BR W A c ([0] ++ keyN 1) → Calls Tryz.prog 38 #[.slice A 17 c] W fun e w' => e = .returned (.agg (cellsB (digS ([0] ++ keyN 1))).toArray) ∧ Below W.heap.size W w') := fun W A c h => lawDigest_any _ A c W (L := 17) (by simp [keyN_length]) h (by omega)
  have HNNL : Hid ((digS []).length = 16) := digS_length _
  have HONL : Hid ((digS ([0] ++ keyN 1)).length = 16) := digS_length _
  generalize hnn : digS [] = NN at HRN HD0 HNNL
  generalize hon : digS ([0] ++ keyN 1) = ON at HR1 HD1 HONL
  clear hnn hon
  have HAL : Hid (∀ W, Below w.heap.size w W → Calls Tryz.prog 25 #[] W fun e w' => e = .returned (.bool true) ∧ Below W.heap.size W w') := fun W hW => alive_any W (range_below hT hW)
  have HP0 : Hid (∀ W g, KR W (some ⟨g, 0, none⟩) 4 l4 → Calls Tryz.prog 26 #[.slice (some ⟨g, 0, none⟩) 3 4, .int .i64 0] W fun e w' => (∃ A c, e = .returned (.tuple #[.agg #[.int .i64 3, .int .i64 0, .slice A 2 c], .int .i64 0]) ∧ KR w' A c [rootS [keyN 2], rootS [keyN 3]]) ∧ Below W.heap.size W w') := fun W g h => (Prove_any l3 0 _ _ W rfl (h.take 3 (by simp [l4]))).mono fun e w' hh => by
      rw [x_prove0] at hh
      obtain ⟨⟨A', c', he, ho⟩, hb⟩ := hh
      exact ⟨⟨A', c', he, ho.kr (fun k hk => by
        simp only [List.mem_cons, List.not_mem_nil, or_false] at hk
        rcases hk with rfl | rfl <;> exact rootS_length _) (by simp)⟩, hb⟩
  have HR2 : Hid (∀ W g, KR W (some ⟨g, 0, none⟩) 4 l4 → Calls Tryz.prog 27 #[.slice (some ⟨g, 16, none⟩) 1 3] W fun e w' => e = .returned (.tuple #[.agg (cellsB (rootS [keyN 2])).toArray, .int .i64 0]) ∧ Below W.heap.size W w') := fun W g h => by
      have := Root_any [keyN 2] _ _ W rfl (kr_mid h (i := 1) (by simp [l4]) (k := keyN 2) rfl (by omega) (by omega))
      rwa [rtS_small (by simp)] at this
  have HR3 : Hid (∀ W g, KR W (some ⟨g, 0, none⟩) 4 l4 → Calls Tryz.prog 27 #[.slice (some ⟨g, 32, none⟩) 1 2] W fun e w' => e = .returned (.tuple #[.agg (cellsB (rootS [keyN 3])).toArray, .int .i64 0]) ∧ Below W.heap.size W w') := fun W g h => by
      have := Root_any [keyN 3] _ _ W rfl (kr_mid h (i := 2) (by simp [l4]) (k := keyN 3) rfl (by omega) (by omega))
      rwa [rtS_small (by simp)] at this
  have HSK : Hid (∀ W A c B d, KR W A c [rootS [keyN 2], rootS [keyN 3]] → KR W B d [rootS [keyN 2], rootS [keyN 3]] → Calls Tryz.prog 44 #[.slice A 2 c, .slice B 2 d] W fun e w' => e = .returned (.bool true) ∧ Below W.heap.size W w') := fun W A c B d g1 g2 => sameKeys_any _ A c B d W rfl g1 g2
  have HR2L : Hid ((rootS [keyN 2]).length = 16) := rootS_length _
  have HR3L : Hid ((rootS [keyN 3]).length = 16) := rootS_length _
  generalize hr2 : rootS [keyN 2] = R2 at HP0 HR2 HSK HR2L
  generalize hr3 : rootS [keyN 3] = R3 at HP0 HR3 HSK HR3L
  clear hr2 hr3
  have HG32 : Hid (∀ W g, KR W (some ⟨g, 0, none⟩) 4 l4 → Calls Tryz.prog 52 #[.slice (some ⟨g, 0, none⟩) 3 4, .int .i64 2] W fun e w' => (∃ A c, e = .returned (.tuple #[.agg #[.int .i64 2, .int .i64 3, .slice A 1 c], .int .i64 0])) ∧ Below W.heap.size W w') := fun W g h => (ProveGrowth_any l3 2 _ _ W rfl (h.take 3 (by simp [l4]))).mono fun e w' hh => by
      rw [x_grow32] at hh
      obtain ⟨⟨A', c', he, ho⟩, hb⟩ := hh
      dsimp only at he
      rw [x_part32] at he
      exact ⟨⟨A', c', he⟩, hb⟩
  have HG31 : Hid (∀ W g, KR W (some ⟨g, 0, none⟩) 4 l4 → Calls Tryz.prog 52 #[.slice (some ⟨g, 0, none⟩) 3 4, .int .i64 1] W fun e w' => (∃ A c, e = .returned (.tuple #[.agg #[.int .i64 1, .int .i64 3, .slice A 2 c], .int .i64 0])) ∧ Below W.heap.size W w') := fun W g h => (ProveGrowth_any l3 1 _ _ W rfl (h.take 3 (by simp [l4]))).mono fun e w' hh => by
      rw [x_grow31] at hh
      obtain ⟨⟨A', c', he, ho⟩, hb⟩ := hh
      dsimp only at he
      rw [x_part31] at he
      exact ⟨⟨A', c', he⟩, hb⟩
  have HG43 : Hid (∀ W g, KR W (some ⟨g, 0, none⟩) 4 l4 → Calls Tryz.prog 52 #[.slice (some ⟨g, 0, none⟩) 4 4, .int .i64 3] W fun e w' => (∃ A c, e = .returned (.tuple #[.agg #[.int .i64 3, .int .i64 4, .slice A 3 c], .int .i64 0])) ∧ Below W.heap.size W w') := fun W g h => (ProveGrowth_any l4 3 _ _ W rfl h).mono fun e w' hh => by
      rw [x_grow43] at hh
      obtain ⟨⟨A', c', he, ho⟩, hb⟩ := hh
      dsimp only at he
      rw [x_part43] at he
      exact ⟨⟨A', c', he⟩, hb⟩
  have HTX : Hid (∀ W g, KR W (some ⟨g, 0, none⟩) 4 l4 → Calls Tryz.prog 40 #[.slice (some ⟨g, 0, none⟩) 3 4] W fun e w' => (∃ A c, e = .returned (.tuple #[.slice A 5 c, .int .i64 0])) ∧ Below W.heap.size W w') := fun W g h => (Texts_any l3 _ _ W rfl (h.take 3 (by simp [l4]))).mono fun e w' hh => by
      obtain ⟨⟨A', c', rs, he, hm, _⟩, hb⟩ := hh
      have hl : rs.length = 5 := by rw [← x_texts.1, ← hm, List.length_map]
      rw [hl, x_texts.2] at he
      exact ⟨⟨A', c', he⟩, hb⟩
  have HP2 : Hid (∀ W g, KR W (some ⟨g, 0, none⟩) 4 l4 → Calls Tryz.prog 26 #[.slice (some ⟨g, 0, none⟩) 3 4, .int .i64 2] W fun e w' => (∃ A c, e = .returned (.tuple #[.agg #[.int .i64 3, .int .i64 2, .slice A 1 c], .int .i64 0]) ∧ KR w' A c [rootS [keyN 1, keyN 2]]) ∧ Below W.heap.size W w') := fun W g h => (Prove_any l3 2 _ _ W rfl (h.take 3 (by simp [l4]))).mono fun e w' hh => by
      rw [x_prove2] at hh
      obtain ⟨⟨A', c', he, ho⟩, hb⟩ := hh
      exact ⟨⟨A', c', he, ho.kr (fun k hk => by
        rw [List.mem_singleton.1 hk]; exact rootS_length _) (by simp)⟩, hb⟩
  have HPT : Hid (∀ W A c, KR W A c [rootS [keyN 1, keyN 2]] → Calls Tryz.prog 41 #[.agg (cellsB (keyN 3)).toArray, .agg #[.int .i64 3, .int .i64 2, .slice A 1 c]] W fun e w' => (∃ A c, e = .returned (.tuple #[.slice A 2 c, .int .i64 0])) ∧ Below W.heap.size W w') := fun W A c h => (PathTexts_any (keyN 3) 3 2 _ A c W rfl (keyN_length 3) h).mono fun e w' hh => by
      obtain ⟨⟨A', c', rs, he, hm, _⟩, hb⟩ := hh
      have hl : rs.length = 2 := by rw [← (x_pt (rootS [keyN 1, keyN 2])).1, ← hm, List.length_map]
      rw [hl, (x_pt (rootS [keyN 1, keyN 2])).2] at he
      exact ⟨⟨A', c', he⟩, hb⟩
  generalize rootS [keyN 1, keyN 2] = R12 at HP2 HPT
  have HRM : Hid (∀ W g, KR W (some ⟨g, 0, none⟩) 129 (List.replicate 129 zeroK) → Calls Tryz.prog 27 #[.slice (some ⟨g, 0, none⟩) 129 129] W fun e w' => e = .returned (.tuple #[.agg (cellsB zeroK).toArray, .int .i64 4]) ∧ Below W.heap.size W w') := fun W g h => by
      have := Root_any (List.replicate 129 zeroK) _ _ W (n := 129) (by simp) h
      rwa [x_many _ (by simp)] at this
  have HC0 : Hid (∀ W, Calls Tryz.prog 20 #[.int .i64 3, .int .i64 0] W fun e w' => ∃ X x Z z, e = .returned (.tuple #[.agg #[.slice X (lowS 1 1).1.length x, .slice Z (lowS 1 1).2.length z], .int .i64 0]) ∧ NR w' X x (lowS 1 1).1 ∧ NR w' Z z (lowS 1 1).2 ∧ Below W.heap.size W w') := fun W => by
      have := MatchChance_any 3 0 W
      rw [x_m0] at this
      exact this.mono fun e w' h => frac2_open_ h
  have HC1 : Hid (∀ W, Calls Tryz.prog 20 #[.int .i64 3, .int .i64 4] W fun e w' => ∃ X x Z z, e = .returned (.tuple #[.agg #[.slice X (lowS 0 1).1.length x, .slice Z (lowS 0 1).2.length z], .int .i64 0]) ∧ NR w' X x (lowS 0 1).1 ∧ NR w' Z z (lowS 0 1).2 ∧ Below W.heap.size W w') := fun W => by
      have := MatchChance_any 3 4 W
      rw [x_m1] at this
      exact this.mono fun e w' h => frac2_open_ h
  have HC2 : Hid (∀ W, Calls Tryz.prog 20 #[.int .i64 0, .int .i64 0] W fun e w' => ∃ X x Z z, e = .returned (.tuple #[.agg #[.slice X (lowS 1 1).1.length x, .slice Z (lowS 1 1).2.length z], .int .i64 0]) ∧ NR w' X x (lowS 1 1).1 ∧ NR w' Z z (lowS 1 1).2 ∧ Below W.heap.size W w') := fun W => by
      have := MatchChance_any 0 0 W
      rw [x_m2] at this
      exact this.mono fun e w' h => frac2_open_ h
  have HC3 : Hid (∀ W, Calls Tryz.prog 20 #[.int .i64 65, .int .i64 0] W fun e w' => ∃ X x Z z, e = .returned (.tuple #[.agg #[.slice X 0 x, .slice Z 0 z], .int .i64 2]) ∧ NR w' X x [] ∧ NR w' Z z [] ∧ Below W.heap.size W w') := fun W => by
      have := MatchChance_any 65 0 W
      rw [x_m3] at this
      exact this.mono fun e w' h => frac2_open_ h
  have HO1 : Hid (∀ W, Calls Tryz.prog 37 #[.int .u64 1] W fun e w' => (∃ A c, e = .returned (.slice A (digs 1).length c) ∧ NR w' A c (digs 1)) ∧ Below W.heap.size W w') := fun W => refOfD_any 1 W (by omega)
  have HL1 : Hid (∀ W A x B y, NR W A x (digs 1) → NR W B y (digs 1) → Calls Tryz.prog 36 #[.slice A (digs 1).length x, .slice B (digs 1).length y] W fun e w' => ∃ X x Z z, e = .returned (.agg #[.slice X (lowS 1 1).1.length x, .slice Z (lowS 1 1).2.length z]) ∧ NR w' X x (lowS 1 1).1 ∧ NR w' Z z (lowS 1 1).2 ∧ Below W.heap.size W w') := fun W A x B y h1 h2 => (lowestD_any (sm_small (by omega)) (sm_small (by omega)) (by omega) rfl rfl h1 h2).mono fun e w' h => by
      obtain ⟨v, rfl, X, x, Z, z, rfl, h1, h2, _, hb⟩ := h
      exact ⟨X, x, Z, z, rfl, h1.nr_, h2.nr_, hb⟩
  have HL0 : Hid (∀ W B y, NR W B y (digs 1) → Calls Tryz.prog 36 #[.slice none 0 0, .slice B (digs 1).length y] W fun e w' => ∃ X x Z z, e = .returned (.agg #[.slice X (lowS 0 1).1.length x, .slice Z (lowS 0 1).2.length z]) ∧ NR w' X x (lowS 0 1).1 ∧ NR w' Z z (lowS 0 1).2 ∧ Below W.heap.size W w') := fun W B y h2 => (lowestD_any (x := 0) (sm_small (by omega)) (sm_small (by omega)) (by omega) (la := 0) rfl rfl (NR.nil W) h2).mono fun e w' h => by
      obtain ⟨v, rfl, X, x, Z, z, rfl, h1, h2, _, hb⟩ := h
      exact ⟨X, x, Z, z, rfl, h1.nr_, h2.nr_, hb⟩
  have HS11 : Hid (∀ W X x Z z X' x' Z' z', NR W X x (lowS 1 1).1 → NR W Z z (lowS 1 1).2 → NR W X' x' (lowS 1 1).1 → NR W Z' z' (lowS 1 1).2 → Calls Tryz.prog 22 #[.agg #[.slice X (lowS 1 1).1.length x, .slice Z (lowS 1 1).2.length z], .agg #[.slice X' (lowS 1 1).1.length x', .slice Z' (lowS 1 1).2.length z']] W fun e w' => e = .returned (.bool true) ∧ Below W.heap.size W w') := fun W X x Z z X' x' Z' z' a1 a2 a3 a4 => by
      have := SameFraction_any X x _ Z z _ X' x' _ Z' z' _ W rfl rfl rfl rfl a1 a2 a3 a4
      rwa [sameB_self, sameB_self] at this
  have HS01 : Hid (∀ W X x Z z X' x' Z' z', NR W X x (lowS 0 1).1 → NR W Z z (lowS 0 1).2 → NR W X' x' (lowS 0 1).1 → NR W Z' z' (lowS 0 1).2 → Calls Tryz.prog 22 #[.agg #[.slice X (lowS 0 1).1.length x, .slice Z (lowS 0 1).2.length z], .agg #[.slice X' (lowS 0 1).1.length x', .slice Z' (lowS 0 1).2.length z']] W fun e w' => e = .returned (.bool true) ∧ Below W.heap.size W w') := fun W X x Z z X' x' Z' z' a1 a2 a3 a4 => by
      have := SameFraction_any X x _ Z z _ X' x' _ Z' z' _ W rfl rfl rfl rfl a1 a2 a3 a4
      rwa [sameB_self, sameB_self] at this
  obtain ⟨m11, hm11⟩ : ∃ q, (lowS 1 1).1.length = q := ⟨_, rfl⟩
  obtain ⟨n11, hn11⟩ : ∃ q, (lowS 1 1).2.length = q := ⟨_, rfl⟩
  rw [hm11, hn11] at HC0 HC2 HL1 HS11
  generalize lowS 1 1 = q11 at HC0 HC2 HL1 HS11
  clear hm11 hn11
  obtain ⟨m01, hm01⟩ : ∃ q, (lowS 0 1).1.length = q := ⟨_, rfl⟩
  obtain ⟨n01, hn01⟩ : ∃ q, (lowS 0 1).2.length = q := ⟨_, rfl⟩
  rw [hm01, hn01] at HC1 HL0 HS01
  generalize lowS 0 1 = q01 at HC1 HL0 HS01
  clear hm01 hn01
  obtain ⟨N1, hN1⟩ : ∃ q, (digs 1).length = q := ⟨_, rfl⟩
  rw [hN1] at HO1 HL1 HL0
  generalize digs 1 = d1 at HO1 HL1 HL0
  clear hN1
  have HMG : Hid (∀ W, Calls Tryz.prog 59 #[] W fun e w' => (∃ X x, e = .returned (.tuple #[.slice X 3 x, .int .i64 0]) ∧ ER w' X x mE) ∧ Below W.heap.size W w') := fun W => (merged_any W).mono fun e w' ⟨⟨X, x, he, ho⟩, hb⟩ => ⟨⟨X, x, he, ho.er (by simp)⟩, hb⟩
  have HPR : Hid (∀ W X x, ER W X x mE → Calls Tryz.prog 42 #[.slice X 3 x, .int .i64 5] W fun e w' => (∃ A c, e = .returned (.tuple #[.slice A 2 c, .int .i64 0]) ∧ ER w' A c [(1, 5), (2, 9)]) ∧ Below W.heap.size W w') := fun W X x h => (Prune_any mE 5 X x W rfl h).mono fun e w' hh => by
      rw [x_prune] at hh
      obtain ⟨⟨A, c, he, ho⟩, hb⟩ := hh
      exact ⟨⟨A, c, he, ho.er (by simp)⟩, hb⟩
  have HF0 : Hid (∀ W X x, ER W X x mE → Calls Tryz.prog 58 #[.slice X 3 x, .int .i64 0] W fun e w' => (∃ d0 d1 A n c d2 d3 B m k, e = .returned (.tuple #[.agg #[.int .i64 (-1), .int .i64 0, .int .i64 1, .int .i64 5, .int .i64 d0, .int .i64 d1, .slice A n c, .int .i64 d2, .int .i64 d3, .slice B m k], .int .i64 0])) ∧ Below W.heap.size W w') := fun W X x h => (ProveOff_any mE 0 X x W rfl h).mono fun e w' hh => by
      obtain ⟨⟨A, c, B, k, he, _, _⟩, hb⟩ := hh
      obtain ⟨h1, h2, h3⟩ := x_off0
      unfold abC at he
      rw [h1, h2, h3] at he
      exact ⟨⟨_, _, _, _, _, _, _, _, _, _, he⟩, hb⟩
  have HF2 : Hid (∀ W X x, ER W X x mE → Calls Tryz.prog 58 #[.slice X 3 x, .int .i64 2] W fun e w' => (∃ A c B k, e = .returned (.tuple #[.agg #[.int .i64 0, .int .i64 0, .int .i64 0, .int .i64 0, .int .i64 0, .int .i64 0, .slice A 0 c, .int .i64 0, .int .i64 0, .slice B 0 k], .int .i64 6])) ∧ Below W.heap.size W w') := fun W X x h => (ProveOff_any mE 2 X x W rfl h).mono fun e w' hh => by
      rw [x_off2] at hh
      obtain ⟨⟨A, c, B, k, he, _, _⟩, hb⟩ := hh
      exact ⟨⟨_, _, _, _, he⟩, hb⟩
  have HN2 : Hid (∀ W X x, ER W X x mE → Calls Tryz.prog 57 #[.slice X 3 x, .int .i64 2] W fun e w' => (∃ A n c, e = .returned (.tuple #[.agg #[.int .i64 2, .int .i64 9], .agg #[.int .i64 5, .int .i64 2, .slice A n c], .int .i64 0])) ∧ Below W.heap.size W w') := fun W X x h => (ProveOn_any mE 2 X x W rfl h).mono fun e w' hh => by
      obtain ⟨⟨A, c, he, _⟩, hb⟩ := hh
      obtain ⟨h1, h2, h3, h4⟩ := x_on
      rw [h1, h2, h3, h4] at he
      exact ⟨⟨_, _, _, he⟩, hb⟩
  have HSE : Hid (∀ W X x Z z, ER W X x [(1, 5), (2, 9)] → ER W Z z [(1, 5), (2, 9)] → Calls Tryz.prog 31 #[.slice X 2 x, .slice Z 2 z] W fun e w' => e = .returned (.bool true) ∧ Below W.heap.size W w') := fun W X x Z z h1 h2 => sameEnts_any _ X x Z z W rfl h1 h2
  have HEX : Hid (∀ W, Calls Tryz.prog 60 #[.int .i64 3] W fun e w' => (∃ A c Y y H h, e = .returned (.agg (caseC (exV 3) A 2 c Y 4 y H 4 h).toArray) ∧ CaseOK w' (exV 3) A 2 c Y 4 y H 4 h) ∧ Below W.heap.size W w') := fun W => example_any 3 W
  have HJV : Hid (∀ W A c Y y H h, CaseOK W (exV 3) A 2 c Y 4 y H 4 h → TestsIn W → Calls Tryz.prog 23 #[.agg (caseC (voidV (turnK (rootS exL))) A 2 c Y 4 y H 4 h).toArray] W fun e w' => e = .returned (.tuple #[.int .u8 1, .int .i64 0]) ∧ Below W.heap.size W w') := fun W A c Y y H h g1 g2 => by
      have := Judge_any (voidV (turnK (rootS exL))) A 2 c Y 4 y H 4 h W (void_ok g1) g2
      rwa [x_void (turnK_ne (rootS_length _))] at this
  have HJS : Hid (∀ W A c Y y H h, CaseOK W (exV 3) A 2 c Y 4 y H 4 h → TestsIn W → Calls Tryz.prog 23 #[.agg (caseC shutV A 2 c Y 4 y H 4 h).toArray] W fun e w' => e = .returned (.tuple #[.int .u8 2, .int .i64 0]) ∧ Below W.heap.size W w') := fun W A c Y y H h g1 g2 => by
      have := Judge_any shutV A 2 c Y 4 y H 4 h W (shut_ok g1) g2
      rwa [x_shut] at this
  have HT2 : Hid (∀ W, Below w.heap.size w W → TestsIn W) := fun W hW => range_below hT hW
  have D0 : Hid (Below w.heap.size w w) := Below.refl _ _
  have HLK := Lib.hid l4_16
  go_enter Tryz.func17, Tryz.ntmps17
  go_wp2_with (first | (refine wpList_buildTo rfl 24 _ rfl (some 35) rfl (cellsB (keyN 1)).toArray (by kernel_rfl) ?_) | (refine wpList_buildTo rfl 24 _ rfl (some 36) rfl (cellsB (keyN 2)).toArray (by kernel_rfl) ?_) | (refine wpList_buildTo rfl 24 _ rfl (some 37) rfl (cellsB (keyN 3)).toArray (by kernel_rfl) ?_) | (refine wpList_buildTo rfl 24 _ rfl (some 38) rfl (cellsB (keyN 4)).toArray (by kernel_rfl) ?_) | (refine wpList_build_keys rfl 4 #[(0, .tmp 35), (1, .tmp 36), (2, .tmp 37), (3, .tmp 38)] rfl l4 HLK.out rfl (by omega) (by omega) (by kernel_rfl) ?_; obtain ⟨w1, hV⟩ : ∃ W, W = w.alloc (.cells (cellsK l4).toArray 24) := ⟨_, rfl⟩; rw [← hV]; have HV1 := Lib.hid hV; clear hV))
  have D1 : Hid (Below w.heap.size w w1) := by unfold Hid; rw [HV1.out]; exact alloc_bel _ _
  have LL : Hid (KR w1 (some ⟨w.heap.size, 0, none⟩) 4 l4) := by unfold Hid; rw [HV1.out]; exact (OK16.litL _ w l4 l4_16 (Nat.le_refl _) (by simp [l4])).kr l4_16 (by simp [l4])
  clear HV1 HLK
  refine (HRN.out _).mono ?_
  rintro e w2 ⟨rfl, hb2⟩
  have D2 : Hid (Below w.heap.size w w2) := bel_on D1.out hb2
  have LL_2 := Lib.hid (LL.out.below hb2)
  clear LL
  clear hb2
  clear HRN
  go_wp2_with ((first | rw [zero16] | skip); refine wpList_store_row rfl 24 (.tmp 2) (.tmp 42) rfl w2.heap.size (cellsB NN).toArray rfl rfl 24 (cellsB zeroK).toArray (Blk.new w2 _ _) (cellsB_size _ HNNL.out) (cellsB_sizes _ _ zeroK_length HNNL.out) (cellsB_all _) ?_; obtain ⟨w3, hV⟩ : ∃ W, W = (w2.alloc (.cells (cellsB zeroK).toArray 24)).setRow w2.heap.size (cellsB NN).toArray := ⟨_, rfl⟩; rw [← hV]; have HV3 := Lib.hid hV; clear hV)
  obtain ⟨gb3, nb3⟩ := keybox2_ _ _ _ _ HV3.out
  have D3 : Hid (Below w.heap.size w w3) := bel_on D2.out gb3
  have LL_3 := Lib.hid (LL_2.out.below gb3)
  clear LL_2
  have B3 := Lib.hid nb3
  clear gb3 nb3 HV3
  refine (HR1.out _ _ LL_3.out).mono ?_
  rintro e w4 ⟨rfl, hb4⟩
  have D4 : Hid (Below w.heap.size w w4) := bel_on D3.out hb4
  have LL_4 := Lib.hid (LL_3.out.below hb4)
  have B3_4 := Lib.hid (B3.out.below' hb4)
  clear LL_3 B3
  clear hb4
  clear HR1
  go_wp2_with ((first | rw [zero16] | skip); refine wpList_store_row rfl 24 (.tmp 4) (.tmp 48) rfl w4.heap.size (cellsB ON).toArray rfl rfl 24 (cellsB zeroK).toArray (Blk.new w4 _ _) (cellsB_size _ HONL.out) (cellsB_sizes _ _ zeroK_length HONL.out) (cellsB_all _) ?_; obtain ⟨w5, hV⟩ : ∃ W, W = (w4.alloc (.cells (cellsB zeroK).toArray 24)).setRow w4.heap.size (cellsB ON).toArray := ⟨_, rfl⟩; rw [← hV]; have HV5 := Lib.hid hV; clear hV)
  obtain ⟨gb5, nb5⟩ := keybox2_ _ _ _ _ HV5.out
  have D5 : Hid (Below w.heap.size w w5) := bel_on D4.out gb5
  have LL_5 := Lib.hid (LL_4.out.below gb5)
  have B3_5 := Lib.hid (B3_4.out.below' gb5)
  clear LL_4 B3_4
  have B5 := Lib.hid nb5
  clear gb5 nb5 HV5
  have HSL : Hid (∀ W, Below w5.heap.size w5 W → W.rangeAt w.heap.size 0 (cellsB (keyN 1))) := fun W hW => by
    obtain ⟨b', o', e', _, hr⟩ := (LL_5.out.below hW).at_ (i := 0) (by simp [l4])
    injection e' with e'
    injection e' with e1 e2
    subst e1 e2
    exact hr
  have HS5 : Hid (∀ W, Below w5.heap.size w5 W → W.rangeAt w2.heap.size 0 (cellsB NN) ∧ W.rangeAt w4.heap.size 0 (cellsB ON) ∧ W.rangeAt w.heap.size 0 (cellsB (keyN 1))) := fun W hW => ⟨(B3_5.out.below' hW).range, (B5.out.below' hW).range, HSL.out W hW⟩
  have E5 : Below w5.heap.size w5 w5 := Below.refl _ _
  refine wp_region_noPanic ?_
  refine wp_region_held_drew (S := fun W => W.rangeAt w2.heap.size 0 (cellsB NN) ∧ W.rangeAt w4.heap.size 0 (cellsB ON) ∧ W.rangeAt w.heap.size 0 (cellsB (keyN 1))) (by kernel_rfl) (HS5.out _ E5.drew) (fun hS => ?_)
  have E5 := E5.drew
  refine hd_take 0 (_) rfl rfl (by kernel_rfl) (by kernel_rfl) (by kernel_rfl) (fun _ _ _ h => h) (fun w hw => by go_simp <;> rfl) hS ?_
  simp only [List.getElem_toArray, List.getElem_cons_succ, List.getElem_cons_zero, Act.put, List.setIfInBounds_toArray, List.set_cons_zero, List.set_cons_succ]
  refine hg_calls 1 25 #[] rfl (by rfl) (by kernel_rfl) (by go_simp <;> rfl) ?_
  refine (HAL.out _ (bel_on D5.out E5)).mono ?_
  rintro e u1 ⟨rfl, hb⟩
  have E1_ := bel_on E5 hb
  have hS1_ := HS5.out _ E1_
  clear hb
  refine ⟨_, rfl, hS1_, ?_⟩
  simp only [List.getElem_toArray, List.getElem_cons_succ, List.getElem_cons_zero, Act.put, List.setIfInBounds_toArray, List.set_cons_zero, List.set_cons_succ]
  refine hg_take 2 (_) rfl (by rfl) (by kernel_rfl) (by kernel_rfl) (by kernel_rfl) (fun _ _ _ h => h) (fun w hw => by go_simp <;> rfl) hS1_ ?_
  simp only [List.getElem_toArray, List.getElem_cons_succ, List.getElem_cons_zero, Act.put, List.setIfInBounds_toArray, List.set_cons_zero, List.set_cons_succ]
  refine hd_take 3 (_) rfl rfl (by kernel_rfl) (by kernel_rfl) (by kernel_rfl) (fun _ _ _ h => h) (fun w hw => by go_simp <;> rfl) hS1_ ?_
  simp only [List.getElem_toArray, List.getElem_cons_succ, List.getElem_cons_zero, Act.put, List.setIfInBounds_toArray, List.set_cons_zero, List.set_cons_succ]
  refine hd_take 4 (_) rfl rfl (by kernel_rfl) (by kernel_rfl) (by kernel_rfl) (fun _ _ _ h => h) (fun w hw => by go_simp <;> rfl) hS1_ ?_
  simp only [List.getElem_toArray, List.getElem_cons_succ, List.getElem_cons_zero, Act.put, List.setIfInBounds_toArray, List.set_cons_zero, List.set_cons_succ]
  refine hg_take 5 (_) rfl (by rfl) (by kernel_rfl) (by kernel_rfl) (by kernel_rfl) (fun _ _ _ h => h) (fun w hw => by go_simp <;> rfl) hS1_ ?_
  simp only [List.getElem_toArray, List.getElem_cons_succ, List.getElem_cons_zero, Act.put, List.setIfInBounds_toArray, List.set_cons_zero, List.set_cons_succ]
  refine hg_take 6 (_) rfl (by rfl) (by kernel_rfl) (by kernel_rfl) (by kernel_rfl) (fun _ _ _ h => h) (fun w hw => by go_simp <;> rfl) hS1_ ?_
  simp only [List.getElem_toArray, List.getElem_cons_succ, List.getElem_cons_zero, Act.put, List.setIfInBounds_toArray, List.set_cons_zero, List.set_cons_succ]
  refine hd_take 7 (_) rfl rfl (by kernel_rfl) (by kernel_rfl) (by kernel_rfl) (fun _ _ _ h => h) (fun w hw => by go_simp <;> rfl) hS1_ ?_
  simp only [List.getElem_toArray, List.getElem_cons_succ, List.getElem_cons_zero, Act.put, List.setIfInBounds_toArray, List.set_cons_zero, List.set_cons_succ]
  refine hd_take 8 (_) rfl rfl (by kernel_rfl) (by kernel_rfl) (by kernel_rfl) (fun _ _ _ h => h) (fun w hw => by go_simp <;> rfl) hS1_ ?_
  simp only [List.getElem_toArray, List.getElem_cons_succ, List.getElem_cons_zero, Act.put, List.setIfInBounds_toArray, List.set_cons_zero, List.set_cons_succ]
  refine hg_load 9 (w2.heap.size) (0) (cellsB NN) _ _ rfl rfl (by rfl) (by kernel_rfl) (by kernel_rfl) (by kernel_rfl) (fun _ _ _ h => h) rfl (fun w hw => hw.1) under_key rfl (key_info HNNL.out) hS1_ ?_
  simp only [List.getElem_toArray, List.getElem_cons_succ, List.getElem_cons_zero, Act.put, List.setIfInBounds_toArray, List.set_cons_zero, List.set_cons_succ]
  refine hg_calls 10 38 #[.slice none 0 0] rfl (by rfl) (by kernel_rfl) (by go_simp <;> rfl) ?_
  refine (HD0.out _).mono ?_
  rintro e u2 ⟨rfl, hb⟩
  have E2_ := bel_on E1_ hb
  have hS2_ := HS5.out _ E2_
  clear hb
  refine ⟨_, rfl, hS2_, ?_⟩
  simp only [List.getElem_toArray, List.getElem_cons_succ, List.getElem_cons_zero, Act.put, List.setIfInBounds_toArray, List.set_cons_zero, List.set_cons_succ]
  refine hg_take 11 (.bool false) rfl (by rfl) (by kernel_rfl) (by kernel_rfl) (by kernel_rfl) (fun _ _ _ h => h) (fun w hw => by have hx := equalIn_keys w NN NN HNNL HNNL; simp [go_sem, hx]) hS2_ ?_
  simp only [List.getElem_toArray, List.getElem_cons_succ, List.getElem_cons_zero, Act.put, List.setIfInBounds_toArray, List.set_cons_zero, List.set_cons_succ]
  refine hd_take 12 (_) rfl rfl (by kernel_rfl) (by kernel_rfl) (by kernel_rfl) (fun _ _ _ h => h) (fun w hw => by go_simp <;> rfl) hS2_ ?_
  simp only [List.getElem_toArray, List.getElem_cons_succ, List.getElem_cons_zero, Act.put, List.setIfInBounds_toArray, List.set_cons_zero, List.set_cons_succ]
  refine hd_take 13 (_) rfl rfl (by kernel_rfl) (by kernel_rfl) (by kernel_rfl) (fun _ _ _ h => h) (fun w hw => by go_simp <;> rfl) hS2_ ?_
  simp only [List.getElem_toArray, List.getElem_cons_succ, List.getElem_cons_zero, Act.put, List.setIfInBounds_toArray, List.set_cons_zero, List.set_cons_succ]
  refine hg_take 14 (_) rfl (by rfl) (by kernel_rfl) (by kernel_rfl) (by kernel_rfl) (fun _ _ _ h => h) (fun w hw => by go_simp <;> rfl) hS2_ ?_
  simp only [List.getElem_toArray, List.getElem_cons_succ, List.getElem_cons_zero, Act.put, List.setIfInBounds_toArray, List.set_cons_zero, List.set_cons_succ]
  refine hg_take 15 (_) rfl (by rfl) (by kernel_rfl) (by kernel_rfl) (by kernel_rfl) (fun _ _ _ h => h) (fun w hw => by go_simp <;> rfl) hS2_ ?_
  simp only [List.getElem_toArray, List.getElem_cons_succ, List.getElem_cons_zero, Act.put, List.setIfInBounds_toArray, List.set_cons_zero, List.set_cons_succ]
  refine hd_take 16 (_) rfl rfl (by kernel_rfl) (by kernel_rfl) (by kernel_rfl) (fun _ _ _ h => h) (fun w hw => by go_simp <;> rfl) hS2_ ?_
  simp only [List.getElem_toArray, List.getElem_cons_succ, List.getElem_cons_zero, Act.put, List.setIfInBounds_toArray, List.set_cons_zero, List.set_cons_succ]
  refine hd_take 17 (_) rfl rfl (by kernel_rfl) (by kernel_rfl) (by kernel_rfl) (fun _ _ _ h => h) (fun w hw => by go_simp <;> rfl) hS2_ ?_
  simp only [List.getElem_toArray, List.getElem_cons_succ, List.getElem_cons_zero, Act.put, List.setIfInBounds_toArray, List.set_cons_zero, List.set_cons_succ]
  refine hg_load 18 (w4.heap.size) (0) (cellsB ON) _ _ rfl rfl (by rfl) (by kernel_rfl) (by kernel_rfl) (by kernel_rfl) (fun _ _ _ h => h) rfl (fun w hw => hw.2.1) under_key rfl (key_info HONL.out) hS2_ ?_
  simp only [List.getElem_toArray, List.getElem_cons_succ, List.getElem_cons_zero, Act.put, List.setIfInBounds_toArray, List.set_cons_zero, List.set_cons_succ]
  refine hg_take 20 (_) rfl (by rfl) (by kernel_rfl) (by kernel_rfl) (by kernel_rfl) (fun _ _ _ h => h) (fun w hw => by go_simp <;> rfl) hS2_ ?_
  simp only [List.getElem_toArray, List.getElem_cons_succ, List.getElem_cons_zero, Act.put, List.setIfInBounds_toArray, List.set_cons_zero, List.set_cons_succ]
  refine hg_take 21 (_) rfl (by rfl) (by kernel_rfl) (by kernel_rfl) (by kernel_rfl) (fun _ _ _ h => h) (fun w hw => by go_simp <;> rfl) hS2_ ?_
  simp only [List.getElem_toArray, List.getElem_cons_succ, List.getElem_cons_zero, Act.put, List.setIfInBounds_toArray, List.set_cons_zero, List.set_cons_succ]
  refine hg_take 22 (_) rfl (by rfl) (by kernel_rfl) (by kernel_rfl) (by kernel_rfl) (fun _ _ _ h => h) (fun w hw => by go_simp <;> rfl) hS2_ ?_
  simp only [List.getElem_toArray, List.getElem_cons_succ, List.getElem_cons_zero, Act.put, List.setIfInBounds_toArray, List.set_cons_zero, List.set_cons_succ]
  have O3 : OB u2.heap.size (u2.alloc (.cells #[.int .u8 0] 5)) (some ⟨u2.heap.size, 0, none⟩) 1 [0] := OB.lit _ u2 [0] (Nat.le_refl _) (by simp) rfl
  have E3a := bel_on E2_ (alloc_bel u2 (.cells #[.int .u8 0] 5))
  have hS3 := HS5.out _ E3a
  refine hg_run 19 (.slice (some ⟨u2.heap.size, 0, none⟩) 1 1) (u2.alloc (.cells #[.int .u8 0] 5)) rfl (by rfl) (by kernel_rfl) (by go_simp <;> rfl) hS3 ?_
  simp only [List.getElem_toArray, List.getElem_cons_succ, List.getElem_cons_zero, Act.put, List.setIfInBounds_toArray, List.set_cons_zero, List.set_cons_succ]
  refine hg_appendB 23 (.tmp 69) (.tmp 72) rfl rfl (by rfl) (by kernel_rfl) u2.heap.size (some ⟨u2.heap.size, 0, none⟩) 1 1 [0] rfl rfl O3 (some ⟨w.heap.size, 0, none⟩) 16 16 (keyN 1) (keyN_length 1) rfl (range_src hS3.2.2 (keyN_length 1)) (by omega) (by simp) ?_
  intro A3 c3 u3 ho3 hb3
  have E3b := bel_on E2_ ((alloc_bel u2 (.cells #[.int .u8 0] 5)).trans hb3)
  have hS4 := HS5.out _ E3b
  refine ⟨hS4, ?_⟩
  simp only [List.getElem_toArray, List.getElem_cons_succ, List.getElem_cons_zero, Act.put, List.setIfInBounds_toArray, List.set_cons_zero, List.set_cons_succ]
  refine hg_calls 24 38 #[.slice A3 17 c3] rfl (by rfl) (by kernel_rfl) (by go_simp <;> rfl) ?_
  refine (HD1.out _ _ _ (ho3.br (by simp [keyN_length]))).mono ?_
  rintro e u4 ⟨rfl, hb⟩
  have E3_ := bel_on E3b hb
  have hS3_ := HS5.out _ E3_
  clear hb
  refine ⟨_, rfl, hS3_, ?_⟩
  simp only [List.getElem_toArray, List.getElem_cons_succ, List.getElem_cons_zero, Act.put, List.setIfInBounds_toArray, List.set_cons_zero, List.set_cons_succ]
  refine hg_take 25 (.bool false) rfl (by rfl) (by kernel_rfl) (by kernel_rfl) (by kernel_rfl) (fun _ _ _ h => h) (fun w hw => by have hx := equalIn_keys w ON ON HONL HONL; simp [go_sem, hx]) hS3_ ?_
  simp only [List.getElem_toArray, List.getElem_cons_succ, List.getElem_cons_zero, Act.put, List.setIfInBounds_toArray, List.set_cons_zero, List.set_cons_succ]
  refine hd_take 26 (_) rfl rfl (by kernel_rfl) (by kernel_rfl) (by kernel_rfl) (fun _ _ _ h => h) (fun w hw => by go_simp <;> rfl) hS3_ ?_
  simp only [List.getElem_toArray, List.getElem_cons_succ, List.getElem_cons_zero, Act.put, List.setIfInBounds_toArray, List.set_cons_zero, List.set_cons_succ]
  refine wpAnyH_done (by kernel_rfl) (NoPanic.normal ?_) _
  clear B3_5 B5
  have D6 : Hid (Below w.heap.size w u4) := bel_on D5.out E3_
  have LL_6 := Lib.hid (LL_5.out.below E3_)
  clear LL_5
  clear HS5 hS E5 E3a hS3 O3 ho3 hb3 E3b hS4 hS1_ E1_ hS2_ E2_ hS3_ E3_ HSL HD0 HD1 HNNL HONL
  go_wp2_with fail
  refine (HP0.out _ _ LL_6.out).mono ?_
  rintro e w7 ⟨⟨P7, c7, rfl, hp7⟩, hb7⟩
  have D7 : Hid (Below w.heap.size w w7) := bel_on D6.out hb7
  have LL_7 := Lib.hid (LL_6.out.below hb7)
  clear LL_6
  have PA := Lib.hid hp7
  clear hp7 HP0
  clear hb7
  go_wp2_with (refine wpList_store_row rfl 27 (.tmp 6) (.tmp 81) rfl w7.heap.size #[.int .i64 3, .int .i64 0, .slice P7 2 c7] rfl rfl 27 #[.int .i64 0, .int .i64 0, .slice none 0 0] (Blk.new w7 _ _) (by kernel_rfl) rfl (by simp [Value.oneCell']) ?_; obtain ⟨w8, hV⟩ : ∃ W, W = (w7.alloc (.cells #[.int .i64 0, .int .i64 0, .slice none 0 0] 27)).setRow w7.heap.size #[.int .i64 3, .int .i64 0, .slice P7 2 c7] := ⟨_, rfl⟩; rw [← hV]; have HV8 := Lib.hid hV; clear hV)
  obtain ⟨gb8, nb8⟩ := keybox2_ _ _ _ _ HV8.out
  have D8 : Hid (Below w.heap.size w w8) := bel_on D7.out gb8
  have LL_8 := Lib.hid (LL_7.out.below gb8)
  have PA_8 := Lib.hid (PA.out.below gb8)
  clear LL_7 PA
  have B8 := Lib.hid nb8
  clear gb8 nb8 HV8
  refine (HR2.out _ _ LL_8.out).mono ?_
  rintro e w9 ⟨rfl, hb9⟩
  have D9 : Hid (Below w.heap.size w w9) := bel_on D8.out hb9
  have LL_9 := Lib.hid (LL_8.out.below hb9)
  have PA_9 := Lib.hid (PA_8.out.below hb9)
  have B8_9 := Lib.hid (B8.out.below' hb9)
  clear LL_8 PA_8 B8
  clear hb9
  clear HR2
  go_wp2_with ((first | rw [zero16] | skip); refine wpList_store_row rfl 24 (.tmp 7) (.tmp 87) rfl w9.heap.size (cellsB R2).toArray rfl rfl 24 (cellsB zeroK).toArray (Blk.new w9 _ _) (cellsB_size _ HR2L.out) (cellsB_sizes _ _ zeroK_length HR2L.out) (cellsB_all _) ?_; obtain ⟨w10, hV⟩ : ∃ W, W = (w9.alloc (.cells (cellsB zeroK).toArray 24)).setRow w9.heap.size (cellsB R2).toArray := ⟨_, rfl⟩; rw [← hV]; have HV10 := Lib.hid hV; clear hV)
  obtain ⟨gb10, nb10⟩ := keybox2_ _ _ _ _ HV10.out
  have D10 : Hid (Below w.heap.size w w10) := bel_on D9.out gb10
  have LL_10 := Lib.hid (LL_9.out.below gb10)
  have PA_10 := Lib.hid (PA_9.out.below gb10)
  have B8_10 := Lib.hid (B8_9.out.below' gb10)
  clear LL_9 PA_9 B8_9
  have B10 := Lib.hid nb10
  clear gb10 nb10 HV10
  refine (HR3.out _ _ LL_10.out).mono ?_
  rintro e w11 ⟨rfl, hb11⟩
  have D11 : Hid (Below w.heap.size w w11) := bel_on D10.out hb11
  have LL_11 := Lib.hid (LL_10.out.below hb11)
  have PA_11 := Lib.hid (PA_10.out.below hb11)
  have B8_11 := Lib.hid (B8_10.out.below' hb11)
  have B10_11 := Lib.hid (B10.out.below' hb11)
  clear LL_10 PA_10 B8_10 B10
  clear hb11
  clear HR3
  have HK2 : Hid (Keys16 [R2, R3]) := fun k hk => by
    simp only [List.mem_cons, List.not_mem_nil, or_false] at hk
    rcases hk with rfl | rfl
    · exact HR2L.out
    · exact HR3L.out
  go_wp2_with (first | ((first | rw [zero16] | skip); refine wpList_store_row rfl 24 (.tmp 8) (.tmp 93) rfl w11.heap.size (cellsB R3).toArray rfl rfl 24 (cellsB zeroK).toArray (Blk.new w11 _ _) (cellsB_size _ HR3L.out) (cellsB_sizes _ _ zeroK_length HR3L.out) (cellsB_all _) ?_; obtain ⟨w12, hV⟩ : ∃ W, W = (w11.alloc (.cells (cellsB zeroK).toArray 24)).setRow w11.heap.size (cellsB R3).toArray := ⟨_, rfl⟩; rw [← hV]; have HV12 := Lib.hid hV; clear hV; have gq := (keybox2_ _ _ _ _ HV12.out).1; have q2 := (B8_11.out.below' gq).cell 2; have L10 := Lib.hid (B10_11.out.below' gq); have L12 := Lib.hid (keybox2_ _ _ _ _ HV12.out).2; clear gq) | (refine BigFrame.wpList_want (by rfl) fun K' hK' => wp_load_row 24 (.tmp 7) rfl (w9.heap.size) rfl 24 (cellsB R2).toArray (0, 0) _ L10.out under_key rfl (cellsB_size _ HR2L.out) (hK' _ _ ?_)) | (refine BigFrame.wpList_want (by rfl) fun K' hK' => wp_load_row 24 (.tmp 8) rfl (w11.heap.size) rfl 24 (cellsB R3).toArray (0, 0) _ L12.out under_key rfl (cellsB_size _ HR3L.out) (hK' _ _ ?_)) | (refine wpList_build_keysG (by rfl) 2 #[(0, .tmp 108), (1, .tmp 109)] rfl [R2, R3] HK2.out rfl (by omega) (by omega) (by kernel_rfl) ?_; obtain ⟨w13, hV⟩ : ∃ W, W = w12.alloc (.cells (cellsK [R2, R3]).toArray 24) := ⟨_, rfl⟩; rw [← hV]; have HV13 := Lib.hid hV; clear hV))
  obtain ⟨gb12, nb12⟩ := keybox2_ _ _ _ _ HV12.out
  have D12 : Hid (Below w.heap.size w w12) := bel_on D11.out gb12
  have LL_12 := Lib.hid (LL_11.out.below gb12)
  have PA_12 := Lib.hid (PA_11.out.below gb12)
  have B8_12 := Lib.hid (B8_11.out.below' gb12)
  have B10_12 := Lib.hid (B10_11.out.below' gb12)
  clear LL_11 PA_11 B8_11 B10_11
  have B12 := Lib.hid nb12
  clear gb12 nb12 HV12
  clear q2 L10 L12
  have gb13 : Below w12.heap.size w12 w13 := by rw [HV13.out]; exact alloc_bel _ _
  have D13 : Hid (Below w.heap.size w w13) := bel_on D12.out gb13
  have LK : Hid (KR w13 (some ⟨w12.heap.size, 0, none⟩) 2 [R2, R3]) := by unfold Hid; rw [HV13.out]; exact (OK16.litL _ w12 [R2, R3] HK2.out (Nat.le_refl _) (by simp)).kr HK2.out (by simp)
  clear B8_12 B10_12 B12
  have LL_13 := Lib.hid (LL_12.out.below gb13)
  have PA_13 := Lib.hid (PA_12.out.below gb13)
  clear LL_12 PA_12
  clear gb13 HV13 HK2
  refine (HSK.out _ _ _ _ _ PA_13.out (LK.out.below (Below.refl _ _))).mono ?_
  rintro e w14 ⟨rfl, hb14⟩
  have D14 : Hid (Below w.heap.size w w14) := bel_on D13.out hb14
  have LL_14 := Lib.hid (LL_13.out.below hb14)
  have PA_14 := Lib.hid (PA_13.out.below hb14)
  clear LL_13 PA_13
  clear hb14
  clear PA_14
  clear HSK LK HR2L HR3L
  go_wp2_with fail
  refine (HG32.out _ _ LL_14.out).mono ?_
  rintro e w15 ⟨⟨A15, c15, rfl⟩, hb15⟩
  have D15 : Hid (Below w.heap.size w w15) := bel_on D14.out hb15
  have LL_15 := Lib.hid (LL_14.out.below hb15)
  clear LL_14
  clear hb15
  clear HG32
  go_wp2_with (refine wpList_store_row rfl 80 (.tmp 10) (.tmp 118) rfl w15.heap.size #[.int .i64 2, .int .i64 3, .slice A15 1 c15] rfl rfl 80 #[.int .i64 0, .int .i64 0, .slice none 0 0] (Blk.new w15 _ _) (by kernel_rfl) rfl (by simp [Value.oneCell']) ?_; obtain ⟨w16, hV⟩ : ∃ W, W = (w15.alloc (.cells #[.int .i64 0, .int .i64 0, .slice none 0 0] 80)).setRow w15.heap.size #[.int .i64 2, .int .i64 3, .slice A15 1 c15] := ⟨_, rfl⟩; rw [← hV]; have HV16 := Lib.hid hV; clear hV)
  obtain ⟨gb16, nb16⟩ := keybox2_ _ _ _ _ HV16.out
  have D16 : Hid (Below w.heap.size w w16) := bel_on D15.out gb16
  have LL_16 := Lib.hid (LL_15.out.below gb16)
  clear LL_15
  have B16 := Lib.hid nb16
  clear gb16 nb16 HV16
  refine (HG31.out _ _ LL_16.out).mono ?_
  rintro e w17 ⟨⟨A17, c17, rfl⟩, hb17⟩
  have D17 : Hid (Below w.heap.size w w17) := bel_on D16.out hb17
  have LL_17 := Lib.hid (LL_16.out.below hb17)
  have B16_17 := Lib.hid (B16.out.below' hb17)
  clear LL_16 B16
  clear hb17
  clear HG31
  go_wp2_with (refine wpList_store_row rfl 80 (.tmp 11) (.tmp 124) rfl w17.heap.size #[.int .i64 1, .int .i64 3, .slice A17 2 c17] rfl rfl 80 #[.int .i64 0, .int .i64 0, .slice none 0 0] (Blk.new w17 _ _) (by kernel_rfl) rfl (by simp [Value.oneCell']) ?_; obtain ⟨w18, hV⟩ : ∃ W, W = (w17.alloc (.cells #[.int .i64 0, .int .i64 0, .slice none 0 0] 80)).setRow w17.heap.size #[.int .i64 1, .int .i64 3, .slice A17 2 c17] := ⟨_, rfl⟩; rw [← hV]; have HV18 := Lib.hid hV; clear hV)
  obtain ⟨gb18, nb18⟩ := keybox2_ _ _ _ _ HV18.out
  have D18 : Hid (Below w.heap.size w w18) := bel_on D17.out gb18
  have LL_18 := Lib.hid (LL_17.out.below gb18)
  have B16_18 := Lib.hid (B16_17.out.below' gb18)
  clear LL_17 B16_17
  have B18 := Lib.hid nb18
  clear gb18 nb18 HV18
  refine (HG43.out _ _ LL_18.out).mono ?_
  rintro e w19 ⟨⟨A19, c19, rfl⟩, hb19⟩
  have D19 : Hid (Below w.heap.size w w19) := bel_on D18.out hb19
  have LL_19 := Lib.hid (LL_18.out.below hb19)
  have B16_19 := Lib.hid (B16_18.out.below' hb19)
  have B18_19 := Lib.hid (B18.out.below' hb19)
  clear LL_18 B16_18 B18
  clear hb19
  clear HG43
  go_wp2_with (refine wpList_store_row rfl 80 (.tmp 12) (.tmp 129) rfl w19.heap.size #[.int .i64 3, .int .i64 4, .slice A19 3 c19] rfl rfl 80 #[.int .i64 0, .int .i64 0, .slice none 0 0] (Blk.new w19 _ _) (by kernel_rfl) rfl (by simp [Value.oneCell']) ?_; obtain ⟨w20, hV⟩ : ∃ W, W = (w19.alloc (.cells #[.int .i64 0, .int .i64 0, .slice none 0 0] 80)).setRow w19.heap.size #[.int .i64 3, .int .i64 4, .slice A19 3 c19] := ⟨_, rfl⟩; rw [← hV]; have HV20 := Lib.hid hV; clear hV)
  obtain ⟨gb20, nb20⟩ := keybox2_ _ _ _ _ HV20.out
  have D20 : Hid (Below w.heap.size w w20) := bel_on D19.out gb20
  have LL_20 := Lib.hid (LL_19.out.below gb20)
  have B16_20 := Lib.hid (B16_19.out.below' gb20)
  have B18_20 := Lib.hid (B18_19.out.below' gb20)
  clear LL_19 B16_19 B18_19
  have B20 := Lib.hid nb20
  clear gb20 nb20 HV20
  refine (HTX.out _ _ LL_20.out).mono ?_
  rintro e w21 ⟨⟨A21, c21, rfl⟩, hb21⟩
  have D21 : Hid (Below w.heap.size w w21) := bel_on D20.out hb21
  have LL_21 := Lib.hid (LL_20.out.below hb21)
  have B16_21 := Lib.hid (B16_20.out.below' hb21)
  have B18_21 := Lib.hid (B18_20.out.below' hb21)
  have B20_21 := Lib.hid (B20.out.below' hb21)
  clear LL_20 B16_20 B18_20 B20
  clear hb21
  clear HTX
  go_wp2_with fail
  refine (HP2.out _ _ LL_21.out).mono ?_
  rintro e w22 ⟨⟨P22, c22, rfl, hp22⟩, hb22⟩
  have D22 : Hid (Below w.heap.size w w22) := bel_on D21.out hb22
  have LL_22 := Lib.hid (LL_21.out.below hb22)
  have B16_22 := Lib.hid (B16_21.out.below' hb22)
  have B18_22 := Lib.hid (B18_21.out.below' hb22)
  have B20_22 := Lib.hid (B20_21.out.below' hb22)
  clear LL_21 B16_21 B18_21 B20_21
  have PQ := Lib.hid hp22
  clear hp22 HP2
  clear hb22
  go_wp2_with (refine wpList_store_row rfl 27 (.tmp 15) (.tmp 141) rfl w22.heap.size #[.int .i64 3, .int .i64 2, .slice P22 1 c22] rfl rfl 27 #[.int .i64 0, .int .i64 0, .slice none 0 0] (Blk.new w22 _ _) (by kernel_rfl) rfl (by simp [Value.oneCell']) ?_; obtain ⟨w23, hV⟩ : ∃ W, W = (w22.alloc (.cells #[.int .i64 0, .int .i64 0, .slice none 0 0] 27)).setRow w22.heap.size #[.int .i64 3, .int .i64 2, .slice P22 1 c22] := ⟨_, rfl⟩; rw [← hV]; have HV23 := Lib.hid hV; clear hV; have gq := (keybox2_ _ _ _ _ HV23.out).1; have q2 := (B16_22.out.below' gq).cell 2; have q3 := (B18_22.out.below' gq).cell 2; have q4 := (B20_22.out.below' gq).cell 2; clear gq)
  obtain ⟨gb23, nb23⟩ := keybox2_ _ _ _ _ HV23.out
  have D23 : Hid (Below w.heap.size w w23) := bel_on D22.out gb23
  have LL_23 := Lib.hid (LL_22.out.below gb23)
  have B16_23 := Lib.hid (B16_22.out.below' gb23)
  have B18_23 := Lib.hid (B18_22.out.below' gb23)
  have B20_23 := Lib.hid (B20_22.out.below' gb23)
  have PQ_23 := Lib.hid (PQ.out.below gb23)
  clear LL_22 B16_22 B18_22 B20_22 PQ
  have B23 := Lib.hid nb23
  clear gb23 nb23 HV23
  clear q2 q3 q4
  clear B16_23 B18_23 B20_23
  have HSL : Hid (∀ W, Below w23.heap.size w23 W → W.rangeAt w.heap.size 32 (cellsB (keyN 3))) := fun W hW => by
    obtain ⟨b', o', e', _, hr⟩ := (LL_23.out.below hW).at_ (i := 2) (by simp [l4])
    injection e' with e'
    injection e' with e1 e2
    subst e1 e2
    exact hr
  have HPQ := Lib.hid (PQ_23.out)
  have HS23 : Hid (∀ W, Below w23.heap.size w23 W → W.rangeAt w.heap.size 32 (cellsB (keyN 3)) ∧ W.rangeAt w22.heap.size 0 [.int .i64 3, .int .i64 2, .slice P22 1 c22]) := fun W hW => ⟨HSL.out W hW, (B23.out.below' hW).range⟩
  have E23 : Below w23.heap.size w23 w23 := Below.refl _ _
  refine wp_region_noPanic ?_
  refine wp_region_held_drew (S := fun W => W.rangeAt w.heap.size 32 (cellsB (keyN 3)) ∧ W.rangeAt w22.heap.size 0 [.int .i64 3, .int .i64 2, .slice P22 1 c22]) (by kernel_rfl) (HS23.out _ E23.drew) (fun hS => ?_)
  have E23 := E23.drew
  refine hd_take 0 (_) rfl rfl (by kernel_rfl) (by kernel_rfl) (by kernel_rfl) (fun _ _ _ h => h) (fun w hw => by go_simp <;> rfl) hS ?_
  simp only [List.getElem_toArray, List.getElem_cons_succ, List.getElem_cons_zero, Act.put, List.setIfInBounds_toArray, List.set_cons_zero, List.set_cons_succ]
  refine hd_take 1 (_) rfl rfl (by kernel_rfl) (by kernel_rfl) (by kernel_rfl) (fun _ _ _ h => h) (fun w hw => by go_simp <;> rfl) hS ?_
  simp only [List.getElem_toArray, List.getElem_cons_succ, List.getElem_cons_zero, Act.put, List.setIfInBounds_toArray, List.set_cons_zero, List.set_cons_succ]
  refine hd_load 2 (w.heap.size) (32) (cellsB (keyN 3)) _ _ rfl rfl rfl (by kernel_rfl) (by kernel_rfl) (by kernel_rfl) (fun _ _ _ h => h) rfl (fun w hw => hw.1) under_key rfl (key_info (keyN_length 3)) hS ?_
  simp only [List.getElem_toArray, List.getElem_cons_succ, List.getElem_cons_zero, Act.put, List.setIfInBounds_toArray, List.set_cons_zero, List.set_cons_succ]
  refine hd_load 3 (w22.heap.size) (0) ([.int .i64 3, .int .i64 2, .slice P22 1 c22]) _ _ rfl rfl rfl (by kernel_rfl) (by kernel_rfl) (by kernel_rfl) (fun _ _ _ h => h) rfl (fun w hw => hw.2) Tryz.underlying27 rfl ((by kernel_rfl)) hS ?_
  simp only [List.getElem_toArray, List.getElem_cons_succ, List.getElem_cons_zero, Act.put, List.setIfInBounds_toArray, List.set_cons_zero, List.set_cons_succ]
  refine hd_calls 4 41 #[.agg (cellsB (keyN 3)).toArray, .agg #[.int .i64 3, .int .i64 2, .slice P22 1 c22]] rfl rfl (by kernel_rfl) (by go_simp <;> rfl) ?_
  refine (HPT.out _ _ _ (HPQ.out.below E23)).mono ?_
  rintro e w24 ⟨⟨A24, c24, rfl⟩, hb⟩
  have E1_ := bel_on E23 hb
  have hS1_ := HS23.out _ E1_
  clear hb
  refine ⟨_, rfl, hS1_, ?_⟩
  simp only [List.getElem_toArray, List.getElem_cons_succ, List.getElem_cons_zero, Act.put, List.setIfInBounds_toArray, List.set_cons_zero, List.set_cons_succ]
  refine hd_take 5 (_) rfl rfl (by kernel_rfl) (by kernel_rfl) (by kernel_rfl) (fun _ _ _ h => h) (fun w hw => by go_simp <;> rfl) hS1_ ?_
  simp only [List.getElem_toArray, List.getElem_cons_succ, List.getElem_cons_zero, Act.put, List.setIfInBounds_toArray, List.set_cons_zero, List.set_cons_succ]
  refine hd_take 6 (_) rfl rfl (by kernel_rfl) (by kernel_rfl) (by kernel_rfl) (fun _ _ _ h => h) (fun w hw => by go_simp <;> rfl) hS1_ ?_
  simp only [List.getElem_toArray, List.getElem_cons_succ, List.getElem_cons_zero, Act.put, List.setIfInBounds_toArray, List.set_cons_zero, List.set_cons_succ]
  refine hd_take 7 (_) rfl rfl (by kernel_rfl) (by kernel_rfl) (by kernel_rfl) (fun _ _ _ h => h) (fun w hw => by go_simp <;> rfl) hS1_ ?_
  simp only [List.getElem_toArray, List.getElem_cons_succ, List.getElem_cons_zero, Act.put, List.setIfInBounds_toArray, List.set_cons_zero, List.set_cons_succ]
  refine hd_take 8 (_) rfl rfl (by kernel_rfl) (by kernel_rfl) (by kernel_rfl) (fun _ _ _ h => h) (fun w hw => by go_simp <;> rfl) hS1_ ?_
  simp only [List.getElem_toArray, List.getElem_cons_succ, List.getElem_cons_zero, Act.put, List.setIfInBounds_toArray, List.set_cons_zero, List.set_cons_succ]
  refine hd_take 9 (_) rfl rfl (by kernel_rfl) (by kernel_rfl) (by kernel_rfl) (fun _ _ _ h => h) (fun w hw => by go_simp <;> rfl) hS1_ ?_
  simp only [List.getElem_toArray, List.getElem_cons_succ, List.getElem_cons_zero, Act.put, List.setIfInBounds_toArray, List.set_cons_zero, List.set_cons_succ]
  refine wpAnyH_done (by kernel_rfl) (NoPanic.normal ?_) _
  clear PQ_23 B23
  have D24 : Hid (Below w.heap.size w w24) := bel_on D23.out E1_
  have LL_24 := Lib.hid (LL_23.out.below E1_)
  clear LL_23
  clear HS23 hS E23 hS1_ E1_ HSL HPQ HPT
  clear LL_24
  obtain ⟨w25, hV25⟩ : ∃ W, W = w24.alloc (.cells (cellsK (List.replicate 129 zeroK)).toArray 24) := ⟨_, rfl⟩
  have hmk : (Instr.makeSlice 25 (.int .i64 129) (.int .i64 129)).run Tryz.prog w24 = .ok (.slice (some ⟨w24.heap.size, 0, none⟩) 129 129) w25 := by
    rw [hV25]
    exact make_129 w24
  have gb25 : Below w24.heap.size w24 w25 := by rw [hV25]; exact alloc_bel _ _
  have HZK : Keys16 (List.replicate 129 zeroK) := fun k hk => by rw [(List.mem_replicate.1 hk).2]; exact zeroK_length
  have ZK : Hid (KR w25 (some ⟨w24.heap.size, 0, none⟩) 129 (List.replicate 129 zeroK)) := by unfold Hid; rw [hV25]; exact (OK16.litL _ w24 (List.replicate 129 zeroK) HZK (Nat.le_refl _) (by simp)).kr HZK (by simp)
  have D25 : Hid (Below w.heap.size w w25) := bel_on D24.out gb25
  have HM19 := Lib.hid (HRM.out _ _ ZK.out)
  clear HZK gb25 hV25 ZK HRM
  go_wp2_with fail
  refine (HM19.out).mono ?_
  rintro e w26 ⟨rfl, hb26⟩
  have D26 : Hid (Below w.heap.size w w26) := bel_on D25.out hb26
  clear hb26
  clear HM19 hmk
  go_wp2_with fail
  refine (HC0.out _).mono ?_
  rintro e w27 ⟨X27, x27, Z27, z27, rfl, gx27, gz27, hb27⟩
  have D27 : Hid (Below w.heap.size w w27) := bel_on D26.out hb27
  have GX27 := Lib.hid gx27
  have GZ27 := Lib.hid gz27
  clear gx27 gz27 HC0
  clear hb27
  go_wp2_with (refine wpList_store_row rfl 38 (.tmp 18) (.tmp 199) rfl w27.heap.size #[.slice X27 m11 x27, .slice Z27 n11 z27] rfl rfl 38 #[.slice none 0 0, .slice none 0 0] (Blk.new w27 _ _) (by kernel_rfl) rfl (by simp [Value.oneCell']) ?_; obtain ⟨w28, hV⟩ : ∃ W, W = (w27.alloc (.cells #[.slice none 0 0, .slice none 0 0] 38)).setRow w27.heap.size #[.slice X27 m11 x27, .slice Z27 n11 z27] := ⟨_, rfl⟩; rw [← hV]; have HV28 := Lib.hid hV; clear hV)
  obtain ⟨gb28, nb28⟩ := keybox2_ _ _ _ _ HV28.out
  have D28 : Hid (Below w.heap.size w w28) := bel_on D27.out gb28
  have GX27_28 := Lib.hid (GX27.out.below gb28)
  have GZ27_28 := Lib.hid (GZ27.out.below gb28)
  clear GX27 GZ27
  have B28 := Lib.hid nb28
  clear gb28 nb28 HV28
  refine (HC1.out _).mono ?_
  rintro e w29 ⟨X29, x29, Z29, z29, rfl, gx29, gz29, hb29⟩
  have D29 : Hid (Below w.heap.size w w29) := bel_on D28.out hb29
  have GX27_29 := Lib.hid (GX27_28.out.below hb29)
  have GZ27_29 := Lib.hid (GZ27_28.out.below hb29)
  have B28_29 := Lib.hid (B28.out.below' hb29)
  clear GX27_28 GZ27_28 B28
  have GX29 := Lib.hid gx29
  have GZ29 := Lib.hid gz29
  clear gx29 gz29 HC1
  clear hb29
  go_wp2_with (refine wpList_store_row rfl 38 (.tmp 19) (.tmp 203) rfl w29.heap.size #[.slice X29 m01 x29, .slice Z29 n01 z29] rfl rfl 38 #[.slice none 0 0, .slice none 0 0] (Blk.new w29 _ _) (by kernel_rfl) rfl (by simp [Value.oneCell']) ?_; obtain ⟨w30, hV⟩ : ∃ W, W = (w29.alloc (.cells #[.slice none 0 0, .slice none 0 0] 38)).setRow w29.heap.size #[.slice X29 m01 x29, .slice Z29 n01 z29] := ⟨_, rfl⟩; rw [← hV]; have HV30 := Lib.hid hV; clear hV)
  obtain ⟨gb30, nb30⟩ := keybox2_ _ _ _ _ HV30.out
  have D30 : Hid (Below w.heap.size w w30) := bel_on D29.out gb30
  have GX27_30 := Lib.hid (GX27_29.out.below gb30)
  have GZ27_30 := Lib.hid (GZ27_29.out.below gb30)
  have B28_30 := Lib.hid (B28_29.out.below' gb30)
  have GX29_30 := Lib.hid (GX29.out.below gb30)
  have GZ29_30 := Lib.hid (GZ29.out.below gb30)
  clear GX27_29 GZ27_29 B28_29 GX29 GZ29
  have B30 := Lib.hid nb30
  clear gb30 nb30 HV30
  refine (HC2.out _).mono ?_
  rintro e w31 ⟨X31, x31, Z31, z31, rfl, gx31, gz31, hb31⟩
  have D31 : Hid (Below w.heap.size w w31) := bel_on D30.out hb31
  have GX27_31 := Lib.hid (GX27_30.out.below hb31)
  have GZ27_31 := Lib.hid (GZ27_30.out.below hb31)
  have B28_31 := Lib.hid (B28_30.out.below' hb31)
  have GX29_31 := Lib.hid (GX29_30.out.below hb31)
  have GZ29_31 := Lib.hid (GZ29_30.out.below hb31)
  have B30_31 := Lib.hid (B30.out.below' hb31)
  clear GX27_30 GZ27_30 B28_30 GX29_30 GZ29_30 B30
  have GX31 := Lib.hid gx31
  have GZ31 := Lib.hid gz31
  clear gx31 gz31 HC2
  clear hb31
  go_wp2_with (refine wpList_store_row rfl 38 (.tmp 20) (.tmp 207) rfl w31.heap.size #[.slice X31 m11 x31, .slice Z31 n11 z31] rfl rfl 38 #[.slice none 0 0, .slice none 0 0] (Blk.new w31 _ _) (by kernel_rfl) rfl (by simp [Value.oneCell']) ?_; obtain ⟨w32, hV⟩ : ∃ W, W = (w31.alloc (.cells #[.slice none 0 0, .slice none 0 0] 38)).setRow w31.heap.size #[.slice X31 m11 x31, .slice Z31 n11 z31] := ⟨_, rfl⟩; rw [← hV]; have HV32 := Lib.hid hV; clear hV)
  obtain ⟨gb32, nb32⟩ := keybox2_ _ _ _ _ HV32.out
  have D32 : Hid (Below w.heap.size w w32) := bel_on D31.out gb32
  have GX27_32 := Lib.hid (GX27_31.out.below gb32)
  have GZ27_32 := Lib.hid (GZ27_31.out.below gb32)
  have B28_32 := Lib.hid (B28_31.out.below' gb32)
  have GX29_32 := Lib.hid (GX29_31.out.below gb32)
  have GZ29_32 := Lib.hid (GZ29_31.out.below gb32)
  have B30_32 := Lib.hid (B30_31.out.below' gb32)
  have GX31_32 := Lib.hid (GX31.out.below gb32)
  have GZ31_32 := Lib.hid (GZ31.out.below gb32)
  clear GX27_31 GZ27_31 B28_31 GX29_31 GZ29_31 B30_31 GX31 GZ31
  have B32 := Lib.hid nb32
  clear gb32 nb32 HV32
  refine (HC3.out _).mono ?_
  rintro e w33 ⟨X33, x33, Z33, z33, rfl, gx33, gz33, hb33⟩
  have D33 : Hid (Below w.heap.size w w33) := bel_on D32.out hb33
  have GX27_33 := Lib.hid (GX27_32.out.below hb33)
  have GZ27_33 := Lib.hid (GZ27_32.out.below hb33)
  have B28_33 := Lib.hid (B28_32.out.below' hb33)
  have GX29_33 := Lib.hid (GX29_32.out.below hb33)
  have GZ29_33 := Lib.hid (GZ29_32.out.below hb33)
  have B30_33 := Lib.hid (B30_32.out.below' hb33)
  have GX31_33 := Lib.hid (GX31_32.out.below hb33)
  have GZ31_33 := Lib.hid (GZ31_32.out.below hb33)
  have B32_33 := Lib.hid (B32.out.below' hb33)
  clear GX27_32 GZ27_32 B28_32 GX29_32 GZ29_32 B30_32 GX31_32 GZ31_32 B32
  have GX33 := Lib.hid gx33
  have GZ33 := Lib.hid gz33
  clear gx33 gz33 HC3
  clear hb33
  go_wp2_with (refine wpList_store_row rfl 38 (.tmp 21) (.tmp 211) rfl w33.heap.size #[.slice X33 0 x33, .slice Z33 0 z33] rfl rfl 38 #[.slice none 0 0, .slice none 0 0] (Blk.new w33 _ _) (by kernel_rfl) rfl (by simp [Value.oneCell']) ?_; obtain ⟨w34, hV⟩ : ∃ W, W = (w33.alloc (.cells #[.slice none 0 0, .slice none 0 0] 38)).setRow w33.heap.size #[.slice X33 0 x33, .slice Z33 0 z33] := ⟨_, rfl⟩; rw [← hV]; have HV34 := Lib.hid hV; clear hV)
  obtain ⟨gb34, nb34⟩ := keybox2_ _ _ _ _ HV34.out
  have D34 : Hid (Below w.heap.size w w34) := bel_on D33.out gb34
  have GX27_34 := Lib.hid (GX27_33.out.below gb34)
  have GZ27_34 := Lib.hid (GZ27_33.out.below gb34)
  have B28_34 := Lib.hid (B28_33.out.below' gb34)
  have GX29_34 := Lib.hid (GX29_33.out.below gb34)
  have GZ29_34 := Lib.hid (GZ29_33.out.below gb34)
  have B30_34 := Lib.hid (B30_33.out.below' gb34)
  have GX31_34 := Lib.hid (GX31_33.out.below gb34)
  have GZ31_34 := Lib.hid (GZ31_33.out.below gb34)
  have B32_34 := Lib.hid (B32_33.out.below' gb34)
  have GX33_34 := Lib.hid (GX33.out.below gb34)
  have GZ33_34 := Lib.hid (GZ33.out.below gb34)
  clear GX27_33 GZ27_33 B28_33 GX29_33 GZ29_33 B30_33 GX31_33 GZ31_33 B32_33 GX33 GZ33
  have B34 := Lib.hid nb34
  clear gb34 nb34 HV34
  clear GX33_34 GZ33_34 B34
  refine (HO1.out _).mono ?_
  rintro e w35 ⟨⟨O35, o35, rfl, ho35⟩, hb35⟩
  have D35 : Hid (Below w.heap.size w w35) := bel_on D34.out hb35
  have GX27_35 := Lib.hid (GX27_34.out.below hb35)
  have GZ27_35 := Lib.hid (GZ27_34.out.below hb35)
  have B28_35 := Lib.hid (B28_34.out.below' hb35)
  have GX29_35 := Lib.hid (GX29_34.out.below hb35)
  have GZ29_35 := Lib.hid (GZ29_34.out.below hb35)
  have B30_35 := Lib.hid (B30_34.out.below' hb35)
  have GX31_35 := Lib.hid (GX31_34.out.below hb35)
  have GZ31_35 := Lib.hid (GZ31_34.out.below hb35)
  have B32_35 := Lib.hid (B32_34.out.below' hb35)
  clear GX27_34 GZ27_34 B28_34 GX29_34 GZ29_34 B30_34 GX31_34 GZ31_34 B32_34
  have HO_35 := Lib.hid ho35
  clear ho35
  clear hb35
  go_wp2_with fail
  refine (HO1.out _).mono ?_
  rintro e w36 ⟨⟨O36, o36, rfl, ho36⟩, hb36⟩
  have D36 : Hid (Below w.heap.size w w36) := bel_on D35.out hb36
  have GX27_36 := Lib.hid (GX27_35.out.below hb36)
  have GZ27_36 := Lib.hid (GZ27_35.out.below hb36)
  have B28_36 := Lib.hid (B28_35.out.below' hb36)
  have GX29_36 := Lib.hid (GX29_35.out.below hb36)
  have GZ29_36 := Lib.hid (GZ29_35.out.below hb36)
  have B30_36 := Lib.hid (B30_35.out.below' hb36)
  have GX31_36 := Lib.hid (GX31_35.out.below hb36)
  have GZ31_36 := Lib.hid (GZ31_35.out.below hb36)
  have B32_36 := Lib.hid (B32_35.out.below' hb36)
  have HO_35_36 := Lib.hid (HO_35.out.below hb36)
  clear GX27_35 GZ27_35 B28_35 GX29_35 GZ29_35 B30_35 GX31_35 GZ31_35 B32_35 HO_35
  have HO_36 := Lib.hid ho36
  clear ho36
  clear hb36
  go_wp2_with fail
  refine (HL1.out _ _ _ _ _ HO_35_36.out HO_36.out).mono ?_
  rintro e w37 ⟨X37, x37, Z37, z37, rfl, gx37, gz37, hb37⟩
  have D37 : Hid (Below w.heap.size w w37) := bel_on D36.out hb37
  have GX27_37 := Lib.hid (GX27_36.out.below hb37)
  have GZ27_37 := Lib.hid (GZ27_36.out.below hb37)
  have B28_37 := Lib.hid (B28_36.out.below' hb37)
  have GX29_37 := Lib.hid (GX29_36.out.below hb37)
  have GZ29_37 := Lib.hid (GZ29_36.out.below hb37)
  have B30_37 := Lib.hid (B30_36.out.below' hb37)
  have GX31_37 := Lib.hid (GX31_36.out.below hb37)
  have GZ31_37 := Lib.hid (GZ31_36.out.below hb37)
  have B32_37 := Lib.hid (B32_36.out.below' hb37)
  have HO_35_37 := Lib.hid (HO_35_36.out.below hb37)
  have HO_36_37 := Lib.hid (HO_36.out.below hb37)
  clear GX27_36 GZ27_36 B28_36 GX29_36 GZ29_36 B30_36 GX31_36 GZ31_36 B32_36 HO_35_36 HO_36
  have GX37 := Lib.hid gx37
  have GZ37 := Lib.hid gz37
  clear gx37 gz37
  clear hb37
  clear HO_35_37 HO_36_37
  go_wp2_with fail
  refine (HO1.out _).mono ?_
  rintro e w38 ⟨⟨O38, o38, rfl, ho38⟩, hb38⟩
  have D38 : Hid (Below w.heap.size w w38) := bel_on D37.out hb38
  have GX27_38 := Lib.hid (GX27_37.out.below hb38)
  have GZ27_38 := Lib.hid (GZ27_37.out.below hb38)
  have B28_38 := Lib.hid (B28_37.out.below' hb38)
  have GX29_38 := Lib.hid (GX29_37.out.below hb38)
  have GZ29_38 := Lib.hid (GZ29_37.out.below hb38)
  have B30_38 := Lib.hid (B30_37.out.below' hb38)
  have GX31_38 := Lib.hid (GX31_37.out.below hb38)
  have GZ31_38 := Lib.hid (GZ31_37.out.below hb38)
  have B32_38 := Lib.hid (B32_37.out.below' hb38)
  have GX37_38 := Lib.hid (GX37.out.below hb38)
  have GZ37_38 := Lib.hid (GZ37.out.below hb38)
  clear GX27_37 GZ27_37 B28_37 GX29_37 GZ29_37 B30_37 GX31_37 GZ31_37 B32_37 GX37 GZ37
  have HO_38 := Lib.hid ho38
  clear ho38
  clear hb38
  go_wp2_with fail
  refine (HL0.out _ _ _ HO_38.out).mono ?_
  rintro e w39 ⟨X39, x39, Z39, z39, rfl, gx39, gz39, hb39⟩
  have D39 : Hid (Below w.heap.size w w39) := bel_on D38.out hb39
  have GX27_39 := Lib.hid (GX27_38.out.below hb39)
  have GZ27_39 := Lib.hid (GZ27_38.out.below hb39)
  have B28_39 := Lib.hid (B28_38.out.below' hb39)
  have GX29_39 := Lib.hid (GX29_38.out.below hb39)
  have GZ29_39 := Lib.hid (GZ29_38.out.below hb39)
  have B30_39 := Lib.hid (B30_38.out.below' hb39)
  have GX31_39 := Lib.hid (GX31_38.out.below hb39)
  have GZ31_39 := Lib.hid (GZ31_38.out.below hb39)
  have B32_39 := Lib.hid (B32_38.out.below' hb39)
  have GX37_39 := Lib.hid (GX37_38.out.below hb39)
  have GZ37_39 := Lib.hid (GZ37_38.out.below hb39)
  have HO_38_39 := Lib.hid (HO_38.out.below hb39)
  clear GX27_38 GZ27_38 B28_38 GX29_38 GZ29_38 B30_38 GX31_38 GZ31_38 B32_38 GX37_38 GZ37_38 HO_38
  have GX39 := Lib.hid gx39
  have GZ39 := Lib.hid gz39
  clear gx39 gz39
  clear hb39
  clear HO_38_39
  clear HO1 HL1 HL0
  go_wp2_with (first | (refine wpList_store_row rfl 38 (.tmp 23) (.tmp 215) rfl w39.heap.size #[.slice X37 m11 x37, .slice Z37 n11 z37] rfl rfl 38 #[.slice none 0 0, .slice none 0 0] (blk_b0 w39 _ _ _) (by kernel_rfl) rfl (by simp [Value.oneCell']) ?_) | (refine wpList_store_row rfl 38 (.tmp 24) (.tmp 217) rfl (w39.heap.size + 1) #[.slice X39 m01 x39, .slice Z39 n01 z39] rfl rfl 38 #[.slice none 0 0, .slice none 0 0] (blk_next_ w39 _ _ _ _ _) (by kernel_rfl) rfl (by simp [Value.oneCell']) ?_; obtain ⟨w40, hV⟩ : ∃ W, W = ((((w39.alloc (.cells #[.slice none 0 0, .slice none 0 0] 38)).alloc (.cells #[.slice none 0 0, .slice none 0 0] 38)).setRow w39.heap.size #[.slice X37 m11 x37, .slice Z37 n11 z37]).setRow (w39.heap.size + 1) #[.slice X39 m01 x39, .slice Z39 n01 z39]) := ⟨_, rfl⟩; rw [← hV]; have HV40 := Lib.hid hV; clear hV; have gq := (twoboxes_ _ _ _ _ _ _ _ HV40.out); have q0 := (B28_39.out.below' gq.1).cell 0; have q1 := (B28_39.out.below' gq.1).cell 1; have q2 := gq.2.1.cell 0; have q3 := gq.2.1.cell 1; clear gq))
  obtain ⟨gb40, nb40, mb40⟩ := twoboxes_ _ _ _ _ _ _ _ HV40.out
  have D40 : Hid (Below w.heap.size w w40) := bel_on D39.out gb40
  have GX27_40 := Lib.hid (GX27_39.out.below gb40)
  have GZ27_40 := Lib.hid (GZ27_39.out.below gb40)
  have B28_40 := Lib.hid (B28_39.out.below' gb40)
  have GX29_40 := Lib.hid (GX29_39.out.below gb40)
  have GZ29_40 := Lib.hid (GZ29_39.out.below gb40)
  have B30_40 := Lib.hid (B30_39.out.below' gb40)
  have GX31_40 := Lib.hid (GX31_39.out.below gb40)
  have GZ31_40 := Lib.hid (GZ31_39.out.below gb40)
  have B32_40 := Lib.hid (B32_39.out.below' gb40)
  have GX37_40 := Lib.hid (GX37_39.out.below gb40)
  have GZ37_40 := Lib.hid (GZ37_39.out.below gb40)
  have GX39_40 := Lib.hid (GX39.out.below gb40)
  have GZ39_40 := Lib.hid (GZ39.out.below gb40)
  clear GX27_39 GZ27_39 B28_39 GX29_39 GZ29_39 B30_39 GX31_39 GZ31_39 B32_39 GX37_39 GZ37_39 GX39 GZ39
  have B23a := Lib.hid nb40
  have B24a := Lib.hid mb40
  clear gb40 nb40 mb40 HV40
  clear q0 q1 q2 q3
  refine (HS11.out _ _ _ _ _ _ _ _ _ GX27_40.out GZ27_40.out GX37_40.out GZ37_40.out).mono ?_
  rintro e w41 ⟨rfl, hb41⟩
  have D41 : Hid (Below w.heap.size w w41) := bel_on D40.out hb41
  have GX27_41 := Lib.hid (GX27_40.out.below hb41)
  have GZ27_41 := Lib.hid (GZ27_40.out.below hb41)
  have B28_41 := Lib.hid (B28_40.out.below' hb41)
  have GX29_41 := Lib.hid (GX29_40.out.below hb41)
  have GZ29_41 := Lib.hid (GZ29_40.out.below hb41)
  have B30_41 := Lib.hid (B30_40.out.below' hb41)
  have GX31_41 := Lib.hid (GX31_40.out.below hb41)
  have GZ31_41 := Lib.hid (GZ31_40.out.below hb41)
  have B32_41 := Lib.hid (B32_40.out.below' hb41)
  have GX37_41 := Lib.hid (GX37_40.out.below hb41)
  have GZ37_41 := Lib.hid (GZ37_40.out.below hb41)
  have GX39_41 := Lib.hid (GX39_40.out.below hb41)
  have GZ39_41 := Lib.hid (GZ39_40.out.below hb41)
  have B23a_41 := Lib.hid (B23a.out.below' hb41)
  have B24a_41 := Lib.hid (B24a.out.below' hb41)
  clear GX27_40 GZ27_40 B28_40 GX29_40 GZ29_40 B30_40 GX31_40 GZ31_40 B32_40 GX37_40 GZ37_40 GX39_40 GZ39_40 B23a B24a
  clear hb41
  have q0 := B30_41.out.cell 0
  have q1 := B30_41.out.cell 1
  have q2 := B24a_41.out.cell 0
  have q3 := B24a_41.out.cell 1
  go_wp2_with fail
  clear q0 q1 q2 q3
  refine (HS01.out _ _ _ _ _ _ _ _ _ GX29_41.out GZ29_41.out GX39_41.out GZ39_41.out).mono ?_
  rintro e w42 ⟨rfl, hb42⟩
  have D42 : Hid (Below w.heap.size w w42) := bel_on D41.out hb42
  have GX27_42 := Lib.hid (GX27_41.out.below hb42)
  have GZ27_42 := Lib.hid (GZ27_41.out.below hb42)
  have B28_42 := Lib.hid (B28_41.out.below' hb42)
  have GX29_42 := Lib.hid (GX29_41.out.below hb42)
  have GZ29_42 := Lib.hid (GZ29_41.out.below hb42)
  have B30_42 := Lib.hid (B30_41.out.below' hb42)
  have GX31_42 := Lib.hid (GX31_41.out.below hb42)
  have GZ31_42 := Lib.hid (GZ31_41.out.below hb42)
  have B32_42 := Lib.hid (B32_41.out.below' hb42)
  have GX37_42 := Lib.hid (GX37_41.out.below hb42)
  have GZ37_42 := Lib.hid (GZ37_41.out.below hb42)
  have GX39_42 := Lib.hid (GX39_41.out.below hb42)
  have GZ39_42 := Lib.hid (GZ39_41.out.below hb42)
  have B23a_42 := Lib.hid (B23a_41.out.below' hb42)
  have B24a_42 := Lib.hid (B24a_41.out.below' hb42)
  clear GX27_41 GZ27_41 B28_41 GX29_41 GZ29_41 B30_41 GX31_41 GZ31_41 B32_41 GX37_41 GZ37_41 GX39_41 GZ39_41 B23a_41 B24a_41
  clear hb42
  have q0 := B32_42.out.cell 0
  have q1 := B32_42.out.cell 1
  have q2 := B23a_42.out.cell 0
  have q3 := B23a_42.out.cell 1
  go_wp2_with fail
  clear q0 q1 q2 q3
  refine (HS11.out _ _ _ _ _ _ _ _ _ GX31_42.out GZ31_42.out GX37_42.out GZ37_42.out).mono ?_
  rintro e w43 ⟨rfl, hb43⟩
  have D43 : Hid (Below w.heap.size w w43) := bel_on D42.out hb43
  have GX27_43 := Lib.hid (GX27_42.out.below hb43)
  have GZ27_43 := Lib.hid (GZ27_42.out.below hb43)
  have B28_43 := Lib.hid (B28_42.out.below' hb43)
  have GX29_43 := Lib.hid (GX29_42.out.below hb43)
  have GZ29_43 := Lib.hid (GZ29_42.out.below hb43)
  have B30_43 := Lib.hid (B30_42.out.below' hb43)
  have GX31_43 := Lib.hid (GX31_42.out.below hb43)
  have GZ31_43 := Lib.hid (GZ31_42.out.below hb43)
  have B32_43 := Lib.hid (B32_42.out.below' hb43)
  have GX37_43 := Lib.hid (GX37_42.out.below hb43)
  have GZ37_43 := Lib.hid (GZ37_42.out.below hb43)
  have GX39_43 := Lib.hid (GX39_42.out.below hb43)
  have GZ39_43 := Lib.hid (GZ39_42.out.below hb43)
  have B23a_43 := Lib.hid (B23a_42.out.below' hb43)
  have B24a_43 := Lib.hid (B24a_42.out.below' hb43)
  clear GX27_42 GZ27_42 B28_42 GX29_42 GZ29_42 B30_42 GX31_42 GZ31_42 B32_42 GX37_42 GZ37_42 GX39_42 GZ39_42 B23a_42 B24a_42
  clear hb43
  clear GX27_43 GZ27_43 B28_43 GX29_43 GZ29_43 B30_43 GX31_43 GZ31_43 B32_43 GX37_43 GZ37_43 GX39_43 GZ39_43 B23a_43 B24a_43
  clear HS11 HS01
  go_wp2_with fail
  refine (HMG.out _).mono ?_
  rintro e w44 ⟨⟨X44, x44, rfl, hm44⟩, hb44⟩
  have D44 : Hid (Below w.heap.size w w44) := bel_on D43.out hb44
  have ME := Lib.hid hm44
  clear hm44 HMG
  clear hb44
  go_wp2_with fail
  refine (HPR.out _ _ _ ME.out).mono ?_
  rintro e w45 ⟨⟨X45, x45, rfl, hm45⟩, hb45⟩
  have D45 : Hid (Below w.heap.size w w45) := bel_on D44.out hb45
  have ME_45 := Lib.hid (ME.out.below hb45)
  clear ME
  have NE := Lib.hid hm45
  clear hm45 HPR
  clear hb45
  go_wp2_with fail
  refine (HF0.out _ _ _ ME_45.out).mono ?_
  rintro e w46 ⟨⟨e0, e1, X46, n46, x46, e2, e3, Z46, m46, z46, rfl⟩, hb46⟩
  have D46 : Hid (Below w.heap.size w w46) := bel_on D45.out hb46
  have ME_46 := Lib.hid (ME_45.out.below hb46)
  have NE_46 := Lib.hid (NE.out.below hb46)
  clear ME_45 NE
  clear hb46
  clear HF0
  go_wp2_with (refine wpList_store_row rfl 100 (.tmp 28) (.tmp 275) rfl w46.heap.size #[.int .i64 (-1), .int .i64 0, .int .i64 1, .int .i64 5, .int .i64 e0, .int .i64 e1, .slice X46 n46 x46, .int .i64 e2, .int .i64 e3, .slice Z46 m46 z46] rfl rfl 100 #[.int .i64 0, .int .i64 0, .int .i64 0, .int .i64 0, .int .i64 0, .int .i64 0, .slice none 0 0, .int .i64 0, .int .i64 0, .slice none 0 0] (Blk.new w46 _ _) (by kernel_rfl) rfl (by simp [Value.oneCell']) ?_; obtain ⟨w47, hV⟩ : ∃ W, W = (w46.alloc (.cells #[.int .i64 0, .int .i64 0, .int .i64 0, .int .i64 0, .int .i64 0, .int .i64 0, .slice none 0 0, .int .i64 0, .int .i64 0, .slice none 0 0] 100)).setRow w46.heap.size #[.int .i64 (-1), .int .i64 0, .int .i64 1, .int .i64 5, .int .i64 e0, .int .i64 e1, .slice X46 n46 x46, .int .i64 e2, .int .i64 e3, .slice Z46 m46 z46] := ⟨_, rfl⟩; rw [← hV]; have HV47 := Lib.hid hV; clear hV)
  obtain ⟨gb47, nb47⟩ := keybox2_ _ _ _ _ HV47.out
  have D47 : Hid (Below w.heap.size w w47) := bel_on D46.out gb47
  have ME_47 := Lib.hid (ME_46.out.below gb47)
  have NE_47 := Lib.hid (NE_46.out.below gb47)
  clear ME_46 NE_46
  have B47 := Lib.hid nb47
  clear gb47 nb47 HV47
  refine (HF2.out _ _ _ ME_47.out).mono ?_
  rintro e w48 ⟨⟨X48, x48, Z48, z48, rfl⟩, hb48⟩
  have D48 : Hid (Below w.heap.size w w48) := bel_on D47.out hb48
  have ME_48 := Lib.hid (ME_47.out.below hb48)
  have NE_48 := Lib.hid (NE_47.out.below hb48)
  have B47_48 := Lib.hid (B47.out.below' hb48)
  clear ME_47 NE_47 B47
  clear hb48
  clear HF2
  go_wp2_with fail
  refine (HN2.out _ _ _ ME_48.out).mono ?_
  rintro e w49 ⟨⟨X49, n49, x49, rfl⟩, hb49⟩
  have D49 : Hid (Below w.heap.size w w49) := bel_on D48.out hb49
  have ME_49 := Lib.hid (ME_48.out.below hb49)
  have NE_49 := Lib.hid (NE_48.out.below hb49)
  have B47_49 := Lib.hid (B47_48.out.below' hb49)
  clear ME_48 NE_48 B47_48
  clear hb49
  clear HN2
  clear ME_49
  go_wp2_with (first | (refine wpList_store_row rfl 98 (.tmp 29) (.tmp 285) rfl w49.heap.size #[.int .i64 2, .int .i64 9] rfl rfl 98 #[.int .i64 0, .int .i64 0] (blk_b0 w49 _ _ _) (by kernel_rfl) rfl (by simp [Value.oneCell']) ?_) | (refine wpList_store_row rfl 27 (.tmp 30) (.tmp 286) rfl (w49.heap.size + 1) #[.int .i64 5, .int .i64 2, .slice X49 n49 x49] rfl rfl 27 #[.int .i64 0, .int .i64 0, .slice none 0 0] (blk_next_ w49 _ _ _ _ _) (by kernel_rfl) rfl (by simp [Value.oneCell']) ?_; obtain ⟨w50, hV⟩ : ∃ W, W = ((((w49.alloc (.cells #[.int .i64 0, .int .i64 0] 98)).alloc (.cells #[.int .i64 0, .int .i64 0, .slice none 0 0] 27)).setRow w49.heap.size #[.int .i64 2, .int .i64 9]).setRow (w49.heap.size + 1) #[.int .i64 5, .int .i64 2, .slice X49 n49 x49]) := ⟨_, rfl⟩; rw [← hV]; have HV50 := Lib.hid hV; clear hV) | (obtain ⟨w51, hV⟩ : ∃ W, W = w50.alloc (.cells #[.int .i64 1, .int .i64 5, .int .i64 2, .int .i64 9] 98) := ⟨_, rfl⟩; rw [← hV]; have HV51 := Lib.hid hV; clear hV))
  obtain ⟨gb50, nb50, mb50⟩ := twoboxes_ _ _ _ _ _ _ _ HV50.out
  have D50 : Hid (Below w.heap.size w w50) := bel_on D49.out gb50
  have NE_50 := Lib.hid (NE_49.out.below gb50)
  have B47_50 := Lib.hid (B47_49.out.below' gb50)
  clear NE_49 B47_49
  have B29 := Lib.hid nb50
  have B30 := Lib.hid mb50
  clear gb50 nb50 mb50 HV50
  have gb51 : Below w50.heap.size w50 w51 := by rw [HV51.out]; exact alloc_bel _ _
  have D51 : Hid (Below w.heap.size w w51) := bel_on D50.out gb51
  have LE : Hid (ER w51 (some ⟨w50.heap.size, 0, none⟩) 2 [(1, 5), (2, 9)]) := by unfold Hid; rw [HV51.out]; exact (OE.lit w50.heap.size w50 [(1, 5), (2, 9)] (Nat.le_refl _) (by simp) (n := 2) rfl).er (by simp)
  have NE_51 := Lib.hid (NE_50.out.below gb51)
  have B47_51 := Lib.hid (B47_50.out.below' gb51)
  have B29_51 := Lib.hid (B29.out.below' gb51)
  have B30_51 := Lib.hid (B30.out.below' gb51)
  clear NE_50 B47_50 B29 B30
  clear gb51 HV51
  refine (HSE.out _ _ _ _ _ NE_51.out (LE.out.below (Below.refl _ _))).mono ?_
  rintro e w52 ⟨rfl, hb52⟩
  have D52 : Hid (Below w.heap.size w w52) := bel_on D51.out hb52
  have NE_52 := Lib.hid (NE_51.out.below hb52)
  have B47_52 := Lib.hid (B47_51.out.below' hb52)
  have B29_52 := Lib.hid (B29_51.out.below' hb52)
  have B30_52 := Lib.hid (B30_51.out.below' hb52)
  clear NE_51 B47_51 B29_51 B30_51
  clear hb52
  clear NE_52
  clear HSE LE
  have q0 := B47_52.out.cell 0
  have q1 := B47_52.out.cell 1
  have q2 := B47_52.out.cell 2
  have q3 := B47_52.out.cell 3
  have q4 := B29_52.out.cell 1
  have q5 := B30_52.out.cell 1
  have q6 := B30_52.out.cell 0
  go_wp2_with fail
  clear q0 q1 q2 q3 q4 q5 q6
  clear B47_52 B29_52 B30_52
  refine (HEX.out _).mono ?_
  rintro e w53 ⟨⟨A53, c53, Y53, y53, H53, h53, rfl, hk53⟩, hb53⟩
  have D53 : Hid (Below w.heap.size w w53) := bel_on D52.out hb53
  have CK53 := Lib.hid hk53
  clear hk53
  clear hb53
  go_wp2_with fail
  refine (HEX.out _).mono ?_
  rintro e w54 ⟨⟨A54, c54, Y54, y54, H54, h54, rfl, hk54⟩, hb54⟩
  have D54 : Hid (Below w.heap.size w w54) := bel_on D53.out hb54
  have CK53_54 := Lib.hid (CK53.out.below hb54)
  clear CK53
  have CK54 := Lib.hid hk54
  clear hk54
  clear hb54
  go_wp2_with (first | ((first | rw [zero55] | skip); refine wpList_store_row rfl 29 (.tmp 31) (.tmp 337) rfl w54.heap.size (caseC (exV 3) A53 2 c53 Y53 4 y53 H53 4 h53).toArray rfl rfl 29 (caseC v0 none 0 0 none 0 0 none 0 0).toArray (blk_b0 w54 _ _ _) (case_info CK53_54.out.r16 CK53_54.out.c16 CK53_54.out.n16) (by rw [List.size_toArray, List.size_toArray, caseC_length (v := exV 3) CK53_54.out.r16 CK53_54.out.c16 CK53_54.out.n16]; rfl) (by simpa using caseC_all _ _ _ _ _ _ _ _ _ _) ?_) | (refine wpList_store_row rfl 29 (.tmp 32) (.tmp 338) rfl (w54.heap.size + 1) (caseC (exV 3) A54 2 c54 Y54 4 y54 H54 4 h54).toArray rfl rfl 29 (caseC v0 none 0 0 none 0 0 none 0 0).toArray (blk_next_ w54 _ _ _ _ _) (case_info CK54.out.r16 CK54.out.c16 CK54.out.n16) (by rw [List.size_toArray, List.size_toArray, caseC_length (v := exV 3) CK54.out.r16 CK54.out.c16 CK54.out.n16]; rfl) (by simpa using caseC_all _ _ _ _ _ _ _ _ _ _) ?_; obtain ⟨w55, hV⟩ : ∃ W, W = ((((w54.alloc (.cells (caseC v0 none 0 0 none 0 0 none 0 0).toArray 29)).alloc (.cells (caseC v0 none 0 0 none 0 0 none 0 0).toArray 29)).setRow w54.heap.size (caseC (exV 3) A53 2 c53 Y53 4 y53 H53 4 h53).toArray).setRow (w54.heap.size + 1) (caseC (exV 3) A54 2 c54 Y54 4 y54 H54 4 h54).toArray) := ⟨_, rfl⟩; rw [← hV]; have HV55 := Lib.hid hV; clear hV; have gq := twoboxes_ _ _ _ _ _ _ _ HV55.out; have D55 : Hid (Below w.heap.size w w55) := bel_on D54.out gq.1; have GB55 := Lib.hid gq.1; have V31 := Lib.hid gq.2.1; have V32 := Lib.hid gq.2.2; have HLW : Hid (w.heap.size ≤ w54.heap.size) := D54.out.size; clear gq; obtain ⟨nb, hnb⟩ : ∃ q : Nat, ((rootS exL).getD 0 0).toNat = q := ⟨_, rfl⟩; obtain ⟨rx, hrx⟩ : ∃ q : Int, ((((rootS exL).getD 0 0) ^^^ 1).toNat : Int) = q := ⟨_, rfl⟩; have q0 : w55.cell? ⟨w54.heap.size, 0, none⟩ = some (.int .u8 (nb : Int)) := (by rw [← hnb]; exact (V31.out.cell 0).trans (ex_cell0 _ _ _ _ _ _)); have f0 := V31.out.frozen 0; have q37 : w55.cell? ⟨w54.heap.size + 1, 37, none⟩ = some (.bool true) := (V32.out.cell 37).trans (ex_cell37 _ _ _ _ _ _); have f37 := V32.out.frozen 37; obtain ⟨w56, hw56⟩ : ∃ W, W = w55.setCell ⟨w54.heap.size, 0, none⟩ (.int .u8 rx) := ⟨_, rfl⟩; obtain ⟨w57, hw57⟩ : ∃ W, W = w56.setCell ⟨w54.heap.size + 1, 37, none⟩ (.bool false) := ⟨_, rfl⟩; have D57 : Hid (Below w.heap.size w w57) := (by unfold Hid; rw [hw57, hw56]; exact (D55.out.setCell (p := ⟨w54.heap.size, 0, none⟩) HLW.out _).setCell (p := ⟨w54.heap.size + 1, 37, none⟩) (Nat.le_trans HLW.out (Nat.le_succ _)) _); have E57 : Hid (Below w54.heap.size w54 w57) := (by unfold Hid; rw [hw57, hw56]; exact (GB55.out.setCell (p := ⟨w54.heap.size, 0, none⟩) (Nat.le_refl _) _).setCell (p := ⟨w54.heap.size + 1, 37, none⟩) (Nat.le_succ _) _); have W31 : Hid (Blk w57 w54.heap.size 29 (caseC (voidV (turnK (rootS exL))) A53 2 c53 Y53 4 y53 H53 4 h53).toArray) := (by unfold Hid; rw [hw57, hw56, ← hrx, ← void_cells]; exact (V31.out.set_ 0 _).far (p := ⟨w54.heap.size + 1, 37, none⟩) (by simp) _); have W32 : Hid (Blk w57 (w54.heap.size + 1) 29 (caseC shutV A54 2 c54 Y54 4 y54 H54 4 h54).toArray) := (by unfold Hid; rw [hw57, hw56, ← shut_cells]; exact (V32.out.far (p := ⟨w54.heap.size, 0, none⟩) (by simp) _).set_ 37 _); have CV := Lib.hid (CK53_54.out.below E57.out); have CS := Lib.hid (CK54.out.below E57.out); have HI31 := Lib.hid (case_info (A := A53) (m := 2) (c := c53) (Y := Y53) (n := 4) (y := y53) (H := H53) (k := 4) (h := h53) (void_ok CV.out).r16 (void_ok CV.out).c16 (void_ok CV.out).n16); have HI32 := Lib.hid (case_info (A := A54) (m := 2) (c := c54) (Y := Y54) (n := 4) (y := y54) (H := H54) (k := 4) (h := h54) (shut_ok CS.out).r16 (shut_ok CS.out).c16 (shut_ok CS.out).n16); have HJ31 := Lib.hid (HJV.out w57 A53 c53 Y53 y53 H53 h53 CV.out (HT2.out _ D57.out)); have HJ32 : Hid (∀ W, Below w57.heap.size w57 W → _) := fun W hW => HJS.out W A54 c54 Y54 y54 H54 h54 (CS.out.below hW) (HT2.out _ (bel_on D57.out hW)); generalize (caseC (voidV (turnK (rootS exL))) A53 2 c53 Y53 4 y53 H53 4 h53).toArray = cv at W31 HI31 HJ31; generalize (caseC shutV A54 2 c54 Y54 4 y54 H54 4 h54).toArray = cw at W32 HI32 HJ32; have hxor : bits BinOp.xor IntKind.u8 (nb : Int) 1 = rx := (by rw [← hnb, ← hrx]; exact xor_u8 _ 1); have f37' : w56.frozen? ⟨w54.heap.size + 1, 37, none⟩ = false := (by rw [hw56]; exact (V32.out.far (p := ⟨w54.heap.size, 0, none⟩) (by simp) _).frozen 37); have q37' : w56.cell? ⟨w54.heap.size + 1, 37, none⟩ = some (.bool true) := (by rw [hw56]; exact ((V32.out.far (p := ⟨w54.heap.size, 0, none⟩) (by simp) _).cell 37).trans (ex_cell37 _ _ _ _ _ _)); have Hw56 := Lib.hid hw56; have Hw57 := Lib.hid hw57; clear hw56 hw57 hnb hrx) | (rw [← Hw56.out]) | (rw [← Hw57.out]) | (refine wpList_load_row rfl 29 (.tmp 31) rfl (w54.heap.size) rfl 29 cv (0, 0) _ W31.out Tryz.underlying29 rfl HI31.out ?_))
  refine (HJ31.out).mono ?_
  rintro e w58 ⟨rfl, hb58⟩
  have D58 : Hid (Below w.heap.size w w58) := bel_on D57.out hb58
  have W32b := Lib.hid (W32.out.below' hb58)
  have HJ58 := Lib.hid (HJ32.out w58 hb58)
  clear hb58 HJ31 HJ32 W31 W32 q0 f0 q37 f37 q37' f37' hxor Hw56 Hw57 V31 V32 GB55 CV CS HJV HJS
  go_wp2_with (refine wpList_load_row rfl 29 (.tmp 32) rfl (w54.heap.size + 1) rfl 29 cw (0, 0) _ W32b.out Tryz.underlying29 rfl HI32.out ?_)
  refine (HJ58.out).mono ?_
  rintro e w59 ⟨rfl, hb59⟩
  have D59 : Hid (Below w.heap.size w w59) := bel_on D58.out hb59
  clear hb59 HJ58
  go_wp2_with fail
  go_ret
  exact ⟨by simp, D59.out⟩
end Go.Proofs.YtinpiodfpnbllaaGreatDoor
