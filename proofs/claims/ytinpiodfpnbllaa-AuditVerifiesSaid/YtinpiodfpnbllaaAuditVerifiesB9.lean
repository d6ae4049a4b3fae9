/-
  Lemmas and contracts, joined: part 9.
-/
import Derived.Test.YtinpiodfpnbllaaAuditVerifiesB8
set_option linter.unusedSimpArgs false
set_option linter.unusedVariables false
set_option linter.unnecessarySimpa false
/- What a proof gives: the reference's Verify and PathTexts. -/
namespace Go.Proofs.Ytinpiodfpnbllaa
open Go.RowKit
set_option linter.unusedVariables false
set_option linter.unusedSimpArgs false
attribute [local go_sem] run_storeCells_key run_storeCells_new equalIn_keys

theorem lastK_short {p : List (List UInt8)} (h : ∀ k ∈ p, k.length = 16) : (lastK p).length ≤ 16 := by
  rcases Nat.eq_zero_or_pos p.length with h0 | h0
  · rw [List.eq_nil_of_length_eq_zero h0]; simp [lastK]
  · rw [h _ (lastK_mem h0)]; omega
theorem climbS_short (leaf : List UInt8) (hl : leaf.length = 16) : ∀ (n i : Nat) (path : List (List UInt8)), (∀ k ∈ path, k.length = 16) → ∀ t ∈ (climbS leaf n i path).2, t.length ≤ 1000 := by
  intro n
  induction n using Nat.strongRecOn with
  | _ n ih =>
    intro i path hp t ht
    have hlast := lastK_short hp
    have hin : ∀ k ∈ initK path, k.length = 16 := fun k hk => hp k (initK_mem hk)
    rcases Nat.lt_or_ge n 2 with h2 | h2
    · rw [climbS_one _ (by omega), List.mem_singleton] at ht
      subst ht
      simp [leafT, hl]
    have s1 := splitS_lt h2
    have s2 := splitS_pos n
    by_cases hi : i < splitS n
    · rw [climbS_low _ _ h2 hi] at ht
      rcases List.mem_append.1 ht with ht | ht
      · exact ih (splitS n) s1 i _ hin t ht
      · rw [List.mem_singleton.1 ht]
        have := climbS_length leaf (splitS n) i (initK path)
        simp only [nodeT, List.length_cons, List.length_append]; omega
    · rw [climbS_high _ _ h2 hi] at ht
      rcases List.mem_append.1 ht with ht | ht
      · exact ih (n - splitS n) (by omega) _ _ hin t ht
      · rw [List.mem_singleton.1 ht]
        have := climbS_length leaf (n - splitS n) (i - splitS n) (initK path)
        simp only [nodeT, List.length_cons, List.length_append]; omega

set_option maxHeartbeats 2000000 in
set_option maxRecDepth 100000 in
theorem refGives_any (leaf : List UInt8) (n i : Nat) (P : List (List UInt8)) (A : Option Addr) (c : Nat) (w : World) {m : Nat} (hm : P.length = m) (hl : leaf.length = 16) (h1 : 1 ≤ n) (h2 : n ≤ 128) (hi : i < n) (hp : P.length = stepsS n i) (h : KR w A c P) :
    Calls Try.prog 78 #[.agg (cellsB leaf).toArray, .agg #[.int .i64 (n : Int), .int .i64 (i : Int), .slice A m c]] w fun e w' => e = .returned (.agg (cellsB (climbS leaf n i P).1).toArray) ∧ Below w.heap.size w w' := by
  have HZ := Lib.hid zero16
  have HK := Lib.hid hl
  have b0 := alloc3_bel w (.cells (cellsB leaf).toArray 23) (.cells #[.int .i64 (n : Int), .int .i64 (i : Int), .slice A m c] 52) (.cells (cellsB zeroK).toArray 23)
  have L0 := Lib.hid (blk_a0 w (cellsB leaf).toArray 23 (.cells #[.int .i64 (n : Int), .int .i64 (i : Int), .slice A m c] 52) (.cells (cellsB zeroK).toArray 23))
  have R0 := Lib.hid (blk_a2 w (.cells (cellsB leaf).toArray 23) (.cells #[.int .i64 (n : Int), .int .i64 (i : Int), .slice A m c] 52) (cellsB zeroK).toArray 23)
  have HG : Hid (∀ W, Below w.heap.size w W → Calls Try.prog 80 #[.agg (cellsB leaf).toArray, .int .i64 (n : Int), .int .i64 (i : Int), .slice A m c] W fun e w' => (∃ X x rs, e = .returned (.tuple #[.agg (cellsB (climbS leaf n i P).1).toArray, .slice X rs.length x]) ∧ TO W.heap.size w' X x rs (climbS leaf n i P).2) ∧ Below W.heap.size W w') := fun W hW => by
    have := refGiven_any leaf hl n i P A c W h1 (by omega) hi hp (h.below hW)
    rwa [hm] at this
  have hrl := climbS_length leaf n i P
  generalize climbS leaf n i P = r at HG hrl ⊢
  obtain ⟨q, x⟩ := r
  dsimp only at HG hrl ⊢
  have HRL := Lib.hid hrl
  have hdc : (cellsB q).length = 16 := by rw [cellsB_length, hrl]
  have hall := all16 q
  clear hm hl h1 h2 hi hp h hrl
  go_enter Try.func78, Try.ntmps78
  go_wp2_with (first
    | (refine wpList_load_row rfl 23 (.tmp 2) rfl w.heap.size rfl 23 (cellsB leaf).toArray (0, 0) _ (by rw [HZ.out]; exact L0.out) under_key rfl (cellsB_size _ HK.out) ?_)
    | (go_at_call 80; rw [HZ.out]; refine (HG.out _ b0).mono ?_; rintro e w1 ⟨⟨A1, c1, rs, rfl, _⟩, hb1⟩; have D1 := bel_on (bel_on b0 hb1) (alloc_bel w1 (.cells (cellsB q).toArray 23)); have Q1 := Lib.hid (Blk.new w1 23 (cellsB q).toArray); have R1 := (R0.out.below' hb1).alloc (.cells (cellsB q).toArray 23); have hr1 : (rowAt (w1.alloc (.cells (cellsB q).toArray 23)) (w.heap.size + 1 + 1)).size = 16 := (by rw [R1.row]; rfl); have hf1 := R1.free; have HR1 := Lib.hid R1; clear R1 hb1)
    | (refine wpList_load_row rfl 23 (.tmp 5) rfl w1.heap.size rfl 23 (cellsB q).toArray (0, 0) _ Q1.out under_key rfl (cellsB_size _ HRL.out) ?_))
  exact bodyPost_ret (results_cell_row rfl _ _ (w.heap.size + 1 + 1) _ _ (0, 0) _ rfl (HR1.out.setRow (cellsB q).toArray) under_key rfl (cellsB_size _ HRL.out)) rfl ⟨rfl, below_setRow D1 (by omega) _⟩

theorem proof_info (a b : Int) (A : Option Addr) (m c : Nat) : (Try.prog.info? 52).map (·.size) = some ([Value.int .i64 a, .int .i64 b, .slice A m c]).length := by
  rw [show (Try.prog.info? 52).map (·.size) = some 3 from by kernel_rfl]; rfl

set_option maxHeartbeats 2000000 in
set_option maxRecDepth 100000 in
theorem refVerify_any (root leaf : List UInt8) (a b : Int) (P : List (List UInt8)) (A : Option Addr) (c : Nat) (w : World) {m : Nat} (hm : P.length = m) (hr : root.length = 16) (hl : leaf.length = 16) (h : KR w A c P) :
    Calls Try.prog 27 #[.agg (cellsB root).toArray, .agg (cellsB leaf).toArray, .agg #[.int .i64 a, .int .i64 b, .slice A m c]] w fun e w' => e = .returned (.tuple #[.bool (verS root leaf a b P).1, .int .i64 (verS root leaf a b P).2]) ∧ Below w.heap.size w w' := by
  have HK := Lib.hid hl
  have HR := Lib.hid hr
  have b0 := alloc3_bel w (.cells (cellsB root).toArray 23) (.cells (cellsB leaf).toArray 23) (.cells #[.int .i64 a, .int .i64 b, .slice A m c] 52)
  have R0 := Lib.hid (blk_a0 w (cellsB root).toArray 23 (.cells (cellsB leaf).toArray 23) (.cells #[.int .i64 a, .int .i64 b, .slice A m c] 52))
  have L0 := Lib.hid (blk_a1 w (.cells (cellsB root).toArray 23) (cellsB leaf).toArray 23 (.cells #[.int .i64 a, .int .i64 b, .slice A m c] 52))
  have P0 := Lib.hid (blk_a2 w (.cells (cellsB root).toArray 23) (.cells (cellsB leaf).toArray 23) [.int .i64 a, .int .i64 b, .slice A m c].toArray 52)
  have hml := h.len
  have HF : Hid (∀ W, Calls Try.prog 77 #[.agg #[.int .i64 a, .int .i64 b, .slice A m c]] W fun e w' => e = .returned (.bool (fitsB a b m)) ∧ Below W.heap.size W w') := fun W => refFits_any a b A m c W (by omega)
  cases hf : fitsB a b m with
  | false =>
    have HS : Hid (verS root leaf a b P = (false, 8)) := by unfold Hid verS; rw [hm, hf]; rfl
    rw [hf] at HF
    clear hf hm hr hl h hml
    go_enter Try.func27, Try.ntmps27
    go_wp2_with (go_at_call 77; refine (HF.out _).mono ?_; rintro e w1 ⟨rfl, hb1⟩; have B1 := Lib.hid (bel_on b0 hb1); clear hb1)
    go_ret2
    rw [HS.out]
    exact ⟨rfl, B1.out⟩
  | true =>
    have HS : Hid (verS root leaf a b P = ((climbS leaf a.toNat b.toNat P).1 == root, 0)) := by unfold Hid verS; rw [hm, hf]; rfl
    rw [hf] at HF
    obtain ⟨⟨g1, g2, g3, g4⟩, g5⟩ := fitsB_iff.1 hf
    have HG : Hid (∀ W, Below w.heap.size w W → Calls Try.prog 78 #[.agg (cellsB leaf).toArray, .agg #[.int .i64 a, .int .i64 b, .slice A m c]] W fun e w' => e = .returned (.agg (cellsB (climbS leaf a.toNat b.toNat P).1).toArray) ∧ Below W.heap.size W w') := fun W hW => by
      have := refGives_any leaf a.toNat b.toNat P A c W hm hl (by omega) (by omega) (by omega) (by rw [hm]; exact g5) (h.below hW)
      rwa [Int.toNat_of_nonneg (by omega), Int.toNat_of_nonneg (by omega)] at this
    have hrl := climbS_length leaf a.toNat b.toNat P
    generalize (climbS leaf a.toNat b.toNat P).1 = q at HS HG hrl
    have HRL := Lib.hid hrl
    clear hf hm hr hl h hml g1 g2 g3 g4 g5 hrl
    go_enter Try.func27, Try.ntmps27
    go_wp2_with (go_at_call 77; refine (HF.out _).mono ?_; rintro e w1 ⟨rfl, hb1⟩; have B1 := bel_on b0 hb1; have R1 := Lib.hid (R0.out.below' hb1); have L1 := Lib.hid (L0.out.below' hb1); have P1 := Lib.hid (P0.out.below' hb1); clear hb1)
    refine wp_region_noPanic ?_
    refine wp_region_held_drew (S := fun w' => w'.rangeAt w.heap.size 0 (cellsB root) ∧ w'.rangeAt (w.heap.size + 1) 0 (cellsB leaf) ∧ w'.rangeAt (w.heap.size + 1 + 1) 0 [.int .i64 a, .int .i64 b, .slice A m c]) (by kernel_rfl) ⟨R1.out.drew.range, L1.out.drew.range, P1.out.drew.range⟩ (fun hS => ?_)
    refine hd_load 0 (w.heap.size + 1) 0 (cellsB leaf) _ _ rfl rfl rfl (by kernel_rfl) (by kernel_rfl) (by kernel_rfl) (fun _ _ _ h => h) rfl (fun w hw => hw.2.1) under_key rfl (key_info HK.out) hS ?_
    refine hd_load 1 (w.heap.size + 1 + 1) 0 [.int .i64 a, .int .i64 b, .slice A m c] _ _ rfl rfl rfl (by kernel_rfl) (by kernel_rfl) (by kernel_rfl) (fun _ _ _ h => h) rfl (fun w hw => hw.2.2) Try.underlying52 rfl (proof_info a b A m c) hS ?_
    refine hd_load 3 w.heap.size 0 (cellsB root) _ _ rfl rfl rfl (by kernel_rfl) (by kernel_rfl) (by kernel_rfl) (fun _ _ _ h => h) rfl (fun w hw => hw.1) under_key rfl (key_info HR.out) hS ?_
    simp only [List.getElem_toArray, List.getElem_cons_succ, List.getElem_cons_zero, Act.put, List.setIfInBounds_toArray, List.set_cons_zero, List.set_cons_succ]
    refine hd_calls 2 78 #[.agg (cellsB leaf).toArray, .agg #[.int .i64 a, .int .i64 b, .slice A m c]] rfl rfl (by kernel_rfl) (by go_simp) ((HG.out _ B1.drew).mono ?_)
    rintro e w2 ⟨rfl, hb2⟩
    have B2 := Lib.hid (bel_on B1.drew hb2)
    have hS2 := And.intro (range_below hS.1 hb2) (And.intro (range_below hS.2.1 hb2) (range_below hS.2.2 hb2))
    refine ⟨_, rfl, hS2, ?_⟩
    simp only [List.getElem_toArray, List.getElem_cons_succ, List.getElem_cons_zero, Act.put, List.setIfInBounds_toArray, List.set_cons_zero, List.set_cons_succ]
    refine hd_take 4 (.bool (q == root)) rfl rfl (by kernel_rfl) (by kernel_rfl) (by kernel_rfl) (fun _ _ _ h => h) (fun w _ => by have hx := equalIn_keys w q root HRL HR; simp [go_sem, hx]) hS2 ?_
    simp only [List.getElem_toArray, List.getElem_cons_succ, List.getElem_cons_zero, Act.put, List.setIfInBounds_toArray, List.set_cons_zero, List.set_cons_succ]
    refine hd_take 5 (.bool (q == root)) rfl rfl (by kernel_rfl) (by kernel_rfl) (by kernel_rfl) (fun _ _ _ h => h) (fun w _ => by go_simp) hS2 ?_
    refine hd_take 6 (.int .i64 0) rfl rfl (by kernel_rfl) (by kernel_rfl) (by kernel_rfl) (fun _ _ _ h => h) (fun w _ => by go_simp) hS2 ?_
    simp only [List.getElem_toArray, List.getElem_cons_succ, List.getElem_cons_zero, Act.put, List.setIfInBounds_toArray, List.set_cons_zero, List.set_cons_succ]
    refine wpAnyH_done (by kernel_rfl) (NoPanic.normal ?_) _
    clear hS hS2
    generalize (q == root) = v at HS ⊢
    go_wp2_with fail
    go_ret2
    rw [HS.out]
    exact ⟨rfl, B2.out⟩

set_option maxHeartbeats 2000000 in
set_option maxRecDepth 100000 in
theorem refPathTexts_any (leaf : List UInt8) (a b : Int) (P : List (List UInt8)) (A : Option Addr) (c : Nat) (w : World) {m : Nat} (hm : P.length = m) (hl : leaf.length = 16) (h : KR w A c P) :
    Calls Try.prog 29 #[.agg (cellsB leaf).toArray, .agg #[.int .i64 a, .int .i64 b, .slice A m c]] w fun e w' => TxEnd (ptS leaf a b P).1 (ptS leaf a b P).2 e w' ∧ Below w.heap.size w w' := by
  have HK := Lib.hid hl
  have b0 := alloc2_bel w (.cells (cellsB leaf).toArray 23) (.cells #[.int .i64 a, .int .i64 b, .slice A m c] 52)
  have L0 := Lib.hid (blk_b0 w (cellsB leaf).toArray 23 (.cells #[.int .i64 a, .int .i64 b, .slice A m c] 52))
  have P0 := Lib.hid (blk_b1 w (.cells (cellsB leaf).toArray 23) #[.int .i64 a, .int .i64 b, .slice A m c] 52)
  have hml := h.len
  have HF : Hid (∀ W, Calls Try.prog 77 #[.agg #[.int .i64 a, .int .i64 b, .slice A m c]] W fun e w' => e = .returned (.bool (fitsB a b m)) ∧ Below W.heap.size W w') := fun W => refFits_any a b A m c W (by omega)
  cases hf : fitsB a b m with
  | false =>
    have HS : Hid (ptS leaf a b P = ([], 8)) := by unfold Hid ptS; rw [hm, hf]; rfl
    rw [hf] at HF
    clear hf hm hl h hml
    go_enter Try.func29, Try.ntmps29
    go_wp2_with (go_at_call 77; refine (HF.out _).mono ?_; rintro e w1 ⟨rfl, hb1⟩; have B1 := Lib.hid (bel_on b0 hb1); clear hb1)
    go_ret2
    rw [HS.out]
    exact ⟨⟨none, 0, [], rfl, rfl, RR.nil _⟩, B1.out⟩
  | true =>
    have HS : Hid (ptS leaf a b P = ((climbS leaf a.toNat b.toNat P).2, 0)) := by unfold Hid ptS; rw [hm, hf]; rfl
    rw [hf] at HF
    obtain ⟨⟨g1, g2, g3, g4⟩, g5⟩ := fitsB_iff.1 hf
    have HG : Hid (∀ W, Below w.heap.size w W → Calls Try.prog 80 #[.agg (cellsB leaf).toArray, .int .i64 a, .int .i64 b, .slice A m c] W fun e w' => (∃ X x rs, e = .returned (.tuple #[.agg (cellsB (climbS leaf a.toNat b.toNat P).1).toArray, .slice X rs.length x]) ∧ TO W.heap.size w' X x rs (climbS leaf a.toNat b.toNat P).2) ∧ Below W.heap.size W w') := fun W hW => by
      have := refGiven_any leaf hl a.toNat b.toNat P A c W (by omega) (by omega) (by omega) (by rw [hm]; exact g5) (h.below hW)
      rwa [hm, Int.toNat_of_nonneg (by omega), Int.toNat_of_nonneg (by omega)] at this
    have hrl := climbS_length leaf a.toNat b.toNat P
    have hrn := climbS_le leaf a.toNat b.toNat P (by omega)
    have HSH := Lib.hid (climbS_short leaf hl a.toNat b.toNat P h.2)
    generalize climbS leaf a.toNat b.toNat P = r at HS HG hrl hrn HSH
    obtain ⟨q, x⟩ := r
    dsimp only at HS HG hrl hrn HSH
    have HLE : Hid (x.length ≤ 100000) := by unfold Hid; omega
    have hdc : (cellsB q).length = 16 := by rw [cellsB_length, hrl]
    have hall := all16 q
    clear hf hm hl h hml g1 g2 g3 g4 g5 hrl hrn
    go_enter Try.func29, Try.ntmps29
    go_wp2_with (first
      | (go_at_call 77; refine (HF.out _).mono ?_; rintro e w1 ⟨rfl, hb1⟩; have B1 := bel_on b0 hb1; have L1 := Lib.hid (L0.out.below' hb1); have P1 := P0.out.below' hb1; have p0 : w1.cell? ⟨w.heap.size + 1, 0, none⟩ = some (.int .i64 a) := P1.cell 0; have p1 : w1.cell? ⟨w.heap.size + 1, 1, none⟩ = some (.int .i64 b) := P1.cell 1; have p2 : w1.cell? ⟨w.heap.size + 1, 2, none⟩ = some (.slice A m c) := P1.cell 2; clear P1 hb1)
      | (refine wpList_load_row rfl 23 (.tmp 2) rfl w.heap.size rfl 23 (cellsB leaf).toArray (0, 0) _ L1.out under_key rfl (cellsB_size _ HK.out) ?_)
      | (go_at_call 80; refine (HG.out _ B1).mono ?_; rintro e w2 ⟨⟨A2, c2, rs, rfl, hto⟩, hb2⟩; have B2 := Lib.hid (bel_on B1 hb2); have HTO := Lib.hid hto; generalize hq : rs.length = k; have HQ := Lib.hid hq; clear hb2 hto hq))
    go_ret2
    rw [HS.out]
    exact ⟨⟨A2, c2, rs, by rw [HQ.out]; rfl, HTO.out.1, (HTO.out.rr HLE.out HSH.out).on (alloc_bel _ _)⟩, bel_on B2.out (alloc_bel _ _)⟩
end Go.Proofs.Ytinpiodfpnbllaa

/- Growths: VerifyGrowth and GrowthTexts, the program's and the reference's. -/
namespace Go.Proofs.Ytinpiodfpnbllaa
open Go.RowKit
set_option linter.unusedVariables false
set_option linter.unusedSimpArgs false
attribute [local go_sem] run_storeCells_key run_storeCells_new equalIn_keys

def vgS (before after : List UInt8) (a b : Int) (P : List (List UInt8)) : Bool × Int := if fitsGB a b P.length = true then ((growS before b.toNat a.toNat P).1 == before && (growS before b.toNat a.toNat P).2.1 == after, 0) else (false, 8)
def gtS (before : List UInt8) (a b : Int) (P : List (List UInt8)) : List (List UInt8) × Int := if fitsGB a b P.length = true then ((growS before b.toNat a.toNat P).2.2, 0) else ([], 8)
theorem growS_short {before : List UInt8} (hb : before.length = 16) : ∀ (n m : Nat) (path : List (List UInt8)), (∀ k ∈ path, k.length = 16) → ∀ t ∈ (growS before n m path).2.2, t.length ≤ 1000 := by
  intro n
  induction n using Nat.strongRecOn with
  | _ n ih =>
    intro m path hp t ht
    have hlast := lastK_short hp
    have hin : ∀ k ∈ initK path, k.length = 16 := fun k hk => hp k (initK_mem hk)
    rw [growS] at ht
    split at ht
    · cases ht
    · rename_i h
      have s1 := splitS_lt (n := n) (by omega)
      have s2 := splitS_pos n
      dsimp only at ht
      split at ht
      · have hl := growS_length hb (splitS n) m (path := initK path) hin
        rcases List.mem_append.1 ht with ht | ht
        · exact ih (splitS n) s1 _ _ hin t ht
        · rw [List.mem_singleton.1 ht]
          simp only [nodeT, List.length_cons, List.length_append]; omega
      · have hl := growS_length hb (n - splitS n) (m - splitS n) (path := initK path) hin
        rcases List.mem_append.1 ht with ht | ht
        · exact ih (n - splitS n) (by omega) _ _ hin t ht
        · rcases List.mem_cons.1 ht with rfl | ht
          · simp only [nodeT, List.length_cons, List.length_append]; omega
          · rw [List.mem_singleton.1 ht]
            simp only [nodeT, List.length_cons, List.length_append]; omega

set_option maxHeartbeats 4000000 in
set_option maxRecDepth 100000 in
theorem VerifyGrowth_any (before after : List UInt8) (a b : Int) (P : List (List UInt8)) (A : Option Addr) (c : Nat) (w : World) {m : Nat} (hm : P.length = m) (hr : before.length = 16) (hl : after.length = 16) (h : KR w A c P) :
    Calls Try.prog 30 #[.agg (cellsB before).toArray, .agg (cellsB after).toArray, .agg #[.int .i64 a, .int .i64 b, .slice A m c]] w fun e w' => e = .returned (.tuple #[.bool (vgS before after a b P).1, .int .i64 (vgS before after a b P).2]) ∧ Below w.heap.size w w' := by
  have HK := Lib.hid hl
  have HR := Lib.hid hr
  have HZ := Lib.hid zero16
  have b0 := alloc3_bel w (.cells (cellsB before).toArray 23) (.cells (cellsB after).toArray 23) (.cells #[.int .i64 a, .int .i64 b, .slice A m c] 59)
  have R0 := Lib.hid (blk_a0 w (cellsB before).toArray 23 (.cells (cellsB after).toArray 23) (.cells #[.int .i64 a, .int .i64 b, .slice A m c] 59))
  have L0 := Lib.hid (blk_a1 w (.cells (cellsB before).toArray 23) (cellsB after).toArray 23 (.cells #[.int .i64 a, .int .i64 b, .slice A m c] 59))
  have P0 := Lib.hid (blk_a2 w (.cells (cellsB before).toArray 23) (.cells (cellsB after).toArray 23) #[.int .i64 a, .int .i64 b, .slice A m c] 59)
  have hml := h.len
  have HF : Hid (∀ W, Calls Try.prog 81 #[.agg #[.int .i64 a, .int .i64 b, .slice A m c]] W fun e w' => e = .returned (.bool (fitsGB a b m)) ∧ Below W.heap.size W w') := fun W => fitsGrowth_any a b A m c W (by omega)
  cases hf : fitsGB a b m with
  | false =>
    have HS : Hid (vgS before after a b P = (false, 8)) := by unfold Hid vgS; rw [hm, hf]; rfl
    rw [hf] at HF
    clear hf hm hr hl h hml
    go_enter Try.func30, Try.ntmps30
    go_wp2_with (go_at_call 81; refine (HF.out _).mono ?_; rintro e w1 ⟨rfl, hb1⟩; have B1 := Lib.hid (bel_on b0 hb1); clear hb1)
    go_ret2
    rw [HS.out]
    exact ⟨rfl, B1.out⟩
  | true =>
    have HS : Hid (vgS before after a b P = ((growS before b.toNat a.toNat P).1 == before && (growS before b.toNat a.toNat P).2.1 == after, 0)) := by unfold Hid vgS; rw [hm, hf]; rfl
    rw [hf] at HF
    obtain ⟨⟨g1, g2, g3⟩, g4⟩ := fitsGB_iff.1 hf
    have HG : Hid (∀ W, Below w.heap.size w W → Calls Try.prog 82 #[.pointer (some ⟨W.heap.size, 0, none⟩), .agg (cellsB before).toArray, .int .i64 b, .int .i64 a, .slice A m c] (W.alloc (.cells #[.slice none 0 0] 119)) (GrowEnd W W.heap.size [] (growS before b.toNat a.toNat P) (W.alloc (.cells #[.slice none 0 0] 119)))) := fun W hW => by
      have := grow_any W W.heap.size before hr b.toNat a.toNat true P A c [] (W.alloc (.cells #[.slice none 0 0] 119)) (by omega) (by omega) (by omega) (by rw [hm]; exact g4) (h.below hW) (alloc_bel _ _) (TX.new W) (by simp only [List.length_nil]; omega)
      rwa [hm, Int.toNat_of_nonneg (by omega), Int.toNat_of_nonneg (by omega)] at this
    have hpl := (growS_length hr b.toNat a.toNat (path := P) h.2).1
    have hql := (growS_length hr b.toNat a.toNat (path := P) h.2).2
    generalize growS before b.toNat a.toNat P = r at HS HG hpl hql
    obtain ⟨p, q, x⟩ := r
    unfold GrowEnd at HG
    dsimp only at HS HG hpl hql
    have HPL := Lib.hid hpl
    have HQL := Lib.hid hql
    have hpc : (cellsB p).length = 16 := by rw [cellsB_length, hpl]
    have hpa := all16 p
    have hqc : (cellsB q).length = 16 := by rw [cellsB_length, hql]
    have hqa := all16 q
    clear hf hm hr hl h hml g1 g2 g3 g4 hpl hql
    cases hpb : (p == before) with
    | false =>
      have HS2 : Hid (vgS before after a b P = (false, 0)) := by unfold Hid; rw [HS.out, hpb]; rfl
      clear HS
      go_enter Try.func30, Try.ntmps30
      go_wp2_with (first
        | (go_at_call 81; refine (HF.out _).mono ?_; rintro e w1 ⟨rfl, hb1⟩; have B1 := bel_on b0 hb1; have R1 := R0.out.below' hb1; have L1 := L0.out.below' hb1; have P1 := P0.out.below' hb1; have p0 : w1.cell? ⟨w.heap.size + 1 + 1, 0, none⟩ = some (.int .i64 a) := P1.cell 0; have p1 : w1.cell? ⟨w.heap.size + 1 + 1, 1, none⟩ = some (.int .i64 b) := P1.cell 1; have p2 : w1.cell? ⟨w.heap.size + 1 + 1, 2, none⟩ = some (.slice A m c) := P1.cell 2; have hpt : w.heap.size + 1 + 1 < w1.heap.size := P1.lt; have HR1 := Lib.hid R1; have HL1 := Lib.hid L1; clear P1 hb1 R1 L1)
        | (refine wpList_load_row rfl 23 (.tmp 3) rfl w.heap.size rfl 23 (cellsB before).toArray (0, 0) _ (HR1.out.alloc _) under_key rfl (cellsB_size _ HR.out) ?_)
        | (go_at_call 82; refine (HG.out w1 B1).mono ?_; rintro e w2 ⟨rfl, ht2, hk2, hb2⟩; have bb := (alloc_bel w1 (.cells #[.slice none 0 0] 119)).trans hb2; have R2 := HR1.out.below' bb; have L2 := HL1.out.below' bb; have hw2 : w.heap.size + 1 + 1 < w2.heap.size := Nat.lt_of_lt_of_le hpt bb.size; have D2 := bel_on B1 bb; have PB := blk_b0 w2 (cellsB zeroK).toArray 23 (.cells (cellsB zeroK).toArray 23); have QB := blk_b1 w2 (.cells (cellsB zeroK).toArray 23) (cellsB zeroK).toArray 23; have QB1 := QB.row_ne (g' := w2.heap.size) (cs' := (cellsB p).toArray) (by omega); have hrA : (rowAt ((w2.alloc (.cells #[.int .u8 0, .int .u8 0, .int .u8 0, .int .u8 0, .int .u8 0, .int .u8 0, .int .u8 0, .int .u8 0, .int .u8 0, .int .u8 0, .int .u8 0, .int .u8 0, .int .u8 0, .int .u8 0, .int .u8 0, .int .u8 0] 23)).alloc (.cells #[.int .u8 0, .int .u8 0, .int .u8 0, .int .u8 0, .int .u8 0, .int .u8 0, .int .u8 0, .int .u8 0, .int .u8 0, .int .u8 0, .int .u8 0, .int .u8 0, .int .u8 0, .int .u8 0, .int .u8 0, .int .u8 0] 23)) w2.heap.size).size = 16 := (by rw [HZ.out, PB.row]; rfl); have hfA : rowFree ((w2.alloc (.cells #[.int .u8 0, .int .u8 0, .int .u8 0, .int .u8 0, .int .u8 0, .int .u8 0, .int .u8 0, .int .u8 0, .int .u8 0, .int .u8 0, .int .u8 0, .int .u8 0, .int .u8 0, .int .u8 0, .int .u8 0, .int .u8 0] 23)).alloc (.cells #[.int .u8 0, .int .u8 0, .int .u8 0, .int .u8 0, .int .u8 0, .int .u8 0, .int .u8 0, .int .u8 0, .int .u8 0, .int .u8 0, .int .u8 0, .int .u8 0, .int .u8 0, .int .u8 0, .int .u8 0, .int .u8 0] 23)) w2.heap.size = true := (by rw [HZ.out]; exact PB.free); have hrB : (rowAt (((w2.alloc (.cells #[.int .u8 0, .int .u8 0, .int .u8 0, .int .u8 0, .int .u8 0, .int .u8 0, .int .u8 0, .int .u8 0, .int .u8 0, .int .u8 0, .int .u8 0, .int .u8 0, .int .u8 0, .int .u8 0, .int .u8 0, .int .u8 0] 23)).alloc (.cells #[.int .u8 0, .int .u8 0, .int .u8 0, .int .u8 0, .int .u8 0, .int .u8 0, .int .u8 0, .int .u8 0, .int .u8 0, .int .u8 0, .int .u8 0, .int .u8 0, .int .u8 0, .int .u8 0, .int .u8 0, .int .u8 0] 23)).setRow w2.heap.size (cellsB p).toArray) (w2.heap.size + 1)).size = 16 := (by rw [HZ.out, QB1.row]; rfl); have hfB : rowFree (((w2.alloc (.cells #[.int .u8 0, .int .u8 0, .int .u8 0, .int .u8 0, .int .u8 0, .int .u8 0, .int .u8 0, .int .u8 0, .int .u8 0, .int .u8 0, .int .u8 0, .int .u8 0, .int .u8 0, .int .u8 0, .int .u8 0, .int .u8 0] 23)).alloc (.cells #[.int .u8 0, .int .u8 0, .int .u8 0, .int .u8 0, .int .u8 0, .int .u8 0, .int .u8 0, .int .u8 0, .int .u8 0, .int .u8 0, .int .u8 0, .int .u8 0, .int .u8 0, .int .u8 0, .int .u8 0, .int .u8 0] 23)).setRow w2.heap.size (cellsB p).toArray) (w2.heap.size + 1) = true := (by rw [HZ.out]; exact QB1.free); have E2 := alloc2_bel w2 (.cells (cellsB zeroK).toArray 23) (.cells (cellsB zeroK).toArray 23); have P3 := Lib.hid ((PB.setRow (cellsB p).toArray).row_ne (g' := w2.heap.size + 1) (cs' := (cellsB q).toArray) (by omega)); have Q3 := Lib.hid (QB1.setRow (cellsB q).toArray); have R3 := Lib.hid (((R2.below' E2).row_ne (g' := w2.heap.size) (cs' := (cellsB p).toArray) (by omega)).row_ne (g' := w2.heap.size + 1) (cs' := (cellsB q).toArray) (by omega)); have L3 := Lib.hid (((L2.below' E2).row_ne (g' := w2.heap.size) (cs' := (cellsB p).toArray) (by omega)).row_ne (g' := w2.heap.size + 1) (cs' := (cellsB q).toArray) (by omega)); have D3 := Lib.hid (below_setRow (below_setRow (bel_on D2 E2) (g := w2.heap.size) (by omega) (cellsB p).toArray) (g := w2.heap.size + 1) (by omega) (cellsB q).toArray); clear PB QB QB1 R2 L2; clear ht2 hk2 hb2 bb)
        | (rw [HZ.out]; refine wpList_load_row rfl 23 (.tmp 9) rfl w2.heap.size rfl 23 (cellsB p).toArray (0, 0) _ P3.out under_key rfl (cellsB_size _ HPL.out) ?_)
        | (refine wpList_load_row rfl 23 (.tmp 3) rfl w.heap.size rfl 23 (cellsB before).toArray (0, 0) _ R3.out under_key rfl (cellsB_size _ HR.out) ?_)
)
      go_ret2
      rw [HS2.out]
      exact ⟨rfl, D3.out⟩
    | true =>
      have HS2 : Hid (vgS before after a b P = (q == after, 0)) := by unfold Hid; rw [HS.out, hpb]; rfl
      clear HS
      go_enter Try.func30, Try.ntmps30
      go_wp2_with (first
        | (go_at_call 81; refine (HF.out _).mono ?_; rintro e w1 ⟨rfl, hb1⟩; have B1 := bel_on b0 hb1; have R1 := R0.out.below' hb1; have L1 := L0.out.below' hb1; have P1 := P0.out.below' hb1; have p0 : w1.cell? ⟨w.heap.size + 1 + 1, 0, none⟩ = some (.int .i64 a) := P1.cell 0; have p1 : w1.cell? ⟨w.heap.size + 1 + 1, 1, none⟩ = some (.int .i64 b) := P1.cell 1; have p2 : w1.cell? ⟨w.heap.size + 1 + 1, 2, none⟩ = some (.slice A m c) := P1.cell 2; have hpt : w.heap.size + 1 + 1 < w1.heap.size := P1.lt; have HR1 := Lib.hid R1; have HL1 := Lib.hid L1; clear P1 hb1 R1 L1)
        | (refine wpList_load_row rfl 23 (.tmp 3) rfl w.heap.size rfl 23 (cellsB before).toArray (0, 0) _ (HR1.out.alloc _) under_key rfl (cellsB_size _ HR.out) ?_)
        | (go_at_call 82; refine (HG.out w1 B1).mono ?_; rintro e w2 ⟨rfl, ht2, hk2, hb2⟩; have bb := (alloc_bel w1 (.cells #[.slice none 0 0] 119)).trans hb2; have R2 := HR1.out.below' bb; have L2 := HL1.out.below' bb; have hw2 : w.heap.size + 1 + 1 < w2.heap.size := Nat.lt_of_lt_of_le hpt bb.size; have D2 := bel_on B1 bb; have PB := blk_b0 w2 (cellsB zeroK).toArray 23 (.cells (cellsB zeroK).toArray 23); have QB := blk_b1 w2 (.cells (cellsB zeroK).toArray 23) (cellsB zeroK).toArray 23; have QB1 := QB.row_ne (g' := w2.heap.size) (cs' := (cellsB p).toArray) (by omega); have hrA : (rowAt ((w2.alloc (.cells #[.int .u8 0, .int .u8 0, .int .u8 0, .int .u8 0, .int .u8 0, .int .u8 0, .int .u8 0, .int .u8 0, .int .u8 0, .int .u8 0, .int .u8 0, .int .u8 0, .int .u8 0, .int .u8 0, .int .u8 0, .int .u8 0] 23)).alloc (.cells #[.int .u8 0, .int .u8 0, .int .u8 0, .int .u8 0, .int .u8 0, .int .u8 0, .int .u8 0, .int .u8 0, .int .u8 0, .int .u8 0, .int .u8 0, .int .u8 0, .int .u8 0, .int .u8 0, .int .u8 0, .int .u8 0] 23)) w2.heap.size).size = 16 := (by rw [HZ.out, PB.row]; rfl); have hfA : rowFree ((w2.alloc (.cells #[.int .u8 0, .int .u8 0, .int .u8 0, .int .u8 0, .int .u8 0, .int .u8 0, .int .u8 0, .int .u8 0, .int .u8 0, .int .u8 0, .int .u8 0, .int .u8 0, .int .u8 0, .int .u8 0, .int .u8 0, .int .u8 0] 23)).alloc (.cells #[.int .u8 0, .int .u8 0, .int .u8 0, .int .u8 0, .int .u8 0, .int .u8 0, .int .u8 0, .int .u8 0, .int .u8 0, .int .u8 0, .int .u8 0, .int .u8 0, .int .u8 0, .int .u8 0, .int .u8 0, .int .u8 0] 23)) w2.heap.size = true := (by rw [HZ.out]; exact PB.free); have hrB : (rowAt (((w2.alloc (.cells #[.int .u8 0, .int .u8 0, .int .u8 0, .int .u8 0, .int .u8 0, .int .u8 0, .int .u8 0, .int .u8 0, .int .u8 0, .int .u8 0, .int .u8 0, .int .u8 0, .int .u8 0, .int .u8 0, .int .u8 0, .int .u8 0] 23)).alloc (.cells #[.int .u8 0, .int .u8 0, .int .u8 0, .int .u8 0, .int .u8 0, .int .u8 0, .int .u8 0, .int .u8 0, .int .u8 0, .int .u8 0, .int .u8 0, .int .u8 0, .int .u8 0, .int .u8 0, .int .u8 0, .int .u8 0] 23)).setRow w2.heap.size (cellsB p).toArray) (w2.heap.size + 1)).size = 16 := (by rw [HZ.out, QB1.row]; rfl); have hfB : rowFree (((w2.alloc (.cells #[.int .u8 0, .int .u8 0, .int .u8 0, .int .u8 0, .int .u8 0, .int .u8 0, .int .u8 0, .int .u8 0, .int .u8 0, .int .u8 0, .int .u8 0, .int .u8 0, .int .u8 0, .int .u8 0, .int .u8 0, .int .u8 0] 23)).alloc (.cells #[.int .u8 0, .int .u8 0, .int .u8 0, .int .u8 0, .int .u8 0, .int .u8 0, .int .u8 0, .int .u8 0, .int .u8 0, .int .u8 0, .int .u8 0, .int .u8 0, .int .u8 0, .int .u8 0, .int .u8 0, .int .u8 0] 23)).setRow w2.heap.size (cellsB p).toArray) (w2.heap.size + 1) = true := (by rw [HZ.out]; exact QB1.free); have E2 := alloc2_bel w2 (.cells (cellsB zeroK).toArray 23) (.cells (cellsB zeroK).toArray 23); have P3 := Lib.hid ((PB.setRow (cellsB p).toArray).row_ne (g' := w2.heap.size + 1) (cs' := (cellsB q).toArray) (by omega)); have Q3 := Lib.hid (QB1.setRow (cellsB q).toArray); have R3 := Lib.hid (((R2.below' E2).row_ne (g' := w2.heap.size) (cs' := (cellsB p).toArray) (by omega)).row_ne (g' := w2.heap.size + 1) (cs' := (cellsB q).toArray) (by omega)); have L3 := Lib.hid (((L2.below' E2).row_ne (g' := w2.heap.size) (cs' := (cellsB p).toArray) (by omega)).row_ne (g' := w2.heap.size + 1) (cs' := (cellsB q).toArray) (by omega)); have D3 := Lib.hid (below_setRow (below_setRow (bel_on D2 E2) (g := w2.heap.size) (by omega) (cellsB p).toArray) (g := w2.heap.size + 1) (by omega) (cellsB q).toArray); clear PB QB QB1 R2 L2; clear ht2 hk2 hb2 bb)
        | (rw [HZ.out]; refine wpList_load_row rfl 23 (.tmp 9) rfl w2.heap.size rfl 23 (cellsB p).toArray (0, 0) _ P3.out under_key rfl (cellsB_size _ HPL.out) ?_)
        | (refine wpList_load_row rfl 23 (.tmp 3) rfl w.heap.size rfl 23 (cellsB before).toArray (0, 0) _ R3.out under_key rfl (cellsB_size _ HR.out) ?_)
        | ((first | rw [hpb] | skip); refine BigFrame.wpList_want (by kernel_rfl) fun K hK => wp_load_row 23 (.tmp 10) rfl (w2.heap.size + 1) rfl 23 (cellsB q).toArray (0, 0) _ Q3.out under_key rfl (cellsB_size _ HQL.out) (hK _ _ ?_))
        | ((first | rw [hpb] | skip); refine BigFrame.wpList_want (by kernel_rfl) fun K hK => wp_load_row 23 (.tmp 4) rfl (w.heap.size + 1) rfl 23 (cellsB after).toArray (0, 0) _ L3.out under_key rfl (cellsB_size _ HK.out) (hK _ _ ?_)))
      go_ret2
      rw [HS2.out]
      exact ⟨rfl, D3.out⟩
end Go.Proofs.Ytinpiodfpnbllaa

/- Growths: VerifyGrowth and GrowthTexts, the program's and the reference's. -/
namespace Go.Proofs.Ytinpiodfpnbllaa
open Go.RowKit
set_option linter.unusedVariables false
set_option linter.unusedSimpArgs false
attribute [local go_sem] run_storeCells_key run_storeCells_new equalIn_keys


set_option maxHeartbeats 4000000 in
set_option maxRecDepth 100000 in
theorem refVerifyGrowth_any (before after : List UInt8) (a b : Int) (P : List (List UInt8)) (A : Option Addr) (c : Nat) (w : World) {m : Nat} (hm : P.length = m) (hr : before.length = 16) (hl : after.length = 16) (h : KR w A c P) :
    Calls Try.prog 31 #[.agg (cellsB before).toArray, .agg (cellsB after).toArray, .agg #[.int .i64 a, .int .i64 b, .slice A m c]] w fun e w' => e = .returned (.tuple #[.bool (vgS before after a b P).1, .int .i64 (vgS before after a b P).2]) ∧ Below w.heap.size w w' := by
  have HK := Lib.hid hl
  have HR := Lib.hid hr
  have HZ := Lib.hid zero16
  have b0 := alloc3_bel w (.cells (cellsB before).toArray 23) (.cells (cellsB after).toArray 23) (.cells #[.int .i64 a, .int .i64 b, .slice A m c] 59)
  have R0 := Lib.hid (blk_a0 w (cellsB before).toArray 23 (.cells (cellsB after).toArray 23) (.cells #[.int .i64 a, .int .i64 b, .slice A m c] 59))
  have L0 := Lib.hid (blk_a1 w (.cells (cellsB before).toArray 23) (cellsB after).toArray 23 (.cells #[.int .i64 a, .int .i64 b, .slice A m c] 59))
  have P0 := Lib.hid (blk_a2 w (.cells (cellsB before).toArray 23) (.cells (cellsB after).toArray 23) #[.int .i64 a, .int .i64 b, .slice A m c] 59)
  have hml := h.len
  have HF : Hid (∀ W, Calls Try.prog 83 #[.agg #[.int .i64 a, .int .i64 b, .slice A m c]] W fun e w' => e = .returned (.bool (fitsGB a b m)) ∧ Below W.heap.size W w') := fun W => refFitsGrowth_any a b A m c W (by omega)
  cases hf : fitsGB a b m with
  | false =>
    have HS : Hid (vgS before after a b P = (false, 8)) := by unfold Hid vgS; rw [hm, hf]; rfl
    rw [hf] at HF
    clear hf hm hr hl h hml
    go_enter Try.func31, Try.ntmps31
    go_wp2_with (go_at_call 83; refine (HF.out _).mono ?_; rintro e w1 ⟨rfl, hb1⟩; have B1 := Lib.hid (bel_on b0 hb1); clear hb1)
    go_ret2
    rw [HS.out]
    exact ⟨rfl, B1.out⟩
  | true =>
    have HS : Hid (vgS before after a b P = ((growS before b.toNat a.toNat P).1 == before && (growS before b.toNat a.toNat P).2.1 == after, 0)) := by unfold Hid vgS; rw [hm, hf]; rfl
    rw [hf] at HF
    obtain ⟨⟨g1, g2, g3⟩, g4⟩ := fitsGB_iff.1 hf
    have HG : Hid (∀ W, Below w.heap.size w W → Calls Try.prog 84 #[.agg (cellsB before).toArray, .int .i64 b, .int .i64 a, .bool true, .slice A m c] W (GrownEnd (growS before b.toNat a.toNat P) W)) := fun W hW => by
      have := refGrown_any before hr b.toNat a.toNat true P A c W (by omega) (by omega) (by omega) (by rw [hm]; exact g4) (h.below hW)
      rwa [hm, Int.toNat_of_nonneg (by omega), Int.toNat_of_nonneg (by omega)] at this
    have hpl := (growS_length hr b.toNat a.toNat (path := P) h.2).1
    have hql := (growS_length hr b.toNat a.toNat (path := P) h.2).2
    generalize growS before b.toNat a.toNat P = r at HS HG hpl hql
    obtain ⟨p, q, x⟩ := r
    unfold GrownEnd at HG
    dsimp only at HS HG hpl hql
    have HPL := Lib.hid hpl
    have HQL := Lib.hid hql
    have hpc : (cellsB p).length = 16 := by rw [cellsB_length, hpl]
    have hpa := all16 p
    have hqc : (cellsB q).length = 16 := by rw [cellsB_length, hql]
    have hqa := all16 q
    clear hf hm hr hl h hml g1 g2 g3 g4 hpl hql
    cases hpb : (p == before) with
    | false =>
      have HS2 : Hid (vgS before after a b P = (false, 0)) := by unfold Hid; rw [HS.out, hpb]; rfl
      clear HS
      go_enter Try.func31, Try.ntmps31
      go_wp2_with (first
        | (go_at_call 83; refine (HF.out _).mono ?_; rintro e w1 ⟨rfl, hb1⟩; have B1 := bel_on b0 hb1; have R1 := R0.out.below' hb1; have L1 := L0.out.below' hb1; have P1 := P0.out.below' hb1; have p0 : w1.cell? ⟨w.heap.size + 1 + 1, 0, none⟩ = some (.int .i64 a) := P1.cell 0; have p1 : w1.cell? ⟨w.heap.size + 1 + 1, 1, none⟩ = some (.int .i64 b) := P1.cell 1; have p2 : w1.cell? ⟨w.heap.size + 1 + 1, 2, none⟩ = some (.slice A m c) := P1.cell 2; have hpt : w.heap.size + 1 + 1 < w1.heap.size := P1.lt; have HR1 := Lib.hid R1; have HL1 := Lib.hid L1; clear P1 hb1 R1 L1)
        | (refine wpList_load_row rfl 23 (.tmp 3) rfl w.heap.size rfl 23 (cellsB before).toArray (0, 0) _ HR1.out under_key rfl (cellsB_size _ HR.out) ?_)
        | (go_at_call 84; refine (HG.out _ B1).mono ?_; rintro e w2 ⟨⟨X2, x2, rs2, rfl, ho2⟩, hb2⟩; have R2 := HR1.out.below' hb2; have L2 := HL1.out.below' hb2; have hw2 : w.heap.size + 1 + 1 < w2.heap.size := Nat.lt_of_lt_of_le hpt hb2.size; have D2 := bel_on B1 hb2; have PB := blk_b0 w2 (cellsB zeroK).toArray 23 (.cells (cellsB zeroK).toArray 23); have QB := blk_b1 w2 (.cells (cellsB zeroK).toArray 23) (cellsB zeroK).toArray 23; have QB1 := QB.row_ne (g' := w2.heap.size) (cs' := (cellsB p).toArray) (by omega); have hrA : (rowAt ((w2.alloc (.cells #[.int .u8 0, .int .u8 0, .int .u8 0, .int .u8 0, .int .u8 0, .int .u8 0, .int .u8 0, .int .u8 0, .int .u8 0, .int .u8 0, .int .u8 0, .int .u8 0, .int .u8 0, .int .u8 0, .int .u8 0, .int .u8 0] 23)).alloc (.cells #[.int .u8 0, .int .u8 0, .int .u8 0, .int .u8 0, .int .u8 0, .int .u8 0, .int .u8 0, .int .u8 0, .int .u8 0, .int .u8 0, .int .u8 0, .int .u8 0, .int .u8 0, .int .u8 0, .int .u8 0, .int .u8 0] 23)) w2.heap.size).size = 16 := (by rw [HZ.out, PB.row]; rfl); have hfA : rowFree ((w2.alloc (.cells #[.int .u8 0, .int .u8 0, .int .u8 0, .int .u8 0, .int .u8 0, .int .u8 0, .int .u8 0, .int .u8 0, .int .u8 0, .int .u8 0, .int .u8 0, .int .u8 0, .int .u8 0, .int .u8 0, .int .u8 0, .int .u8 0] 23)).alloc (.cells #[.int .u8 0, .int .u8 0, .int .u8 0, .int .u8 0, .int .u8 0, .int .u8 0, .int .u8 0, .int .u8 0, .int .u8 0, .int .u8 0, .int .u8 0, .int .u8 0, .int .u8 0, .int .u8 0, .int .u8 0, .int .u8 0] 23)) w2.heap.size = true := (by rw [HZ.out]; exact PB.free); have hrB : (rowAt (((w2.alloc (.cells #[.int .u8 0, .int .u8 0, .int .u8 0, .int .u8 0, .int .u8 0, .int .u8 0, .int .u8 0, .int .u8 0, .int .u8 0, .int .u8 0, .int .u8 0, .int .u8 0, .int .u8 0, .int .u8 0, .int .u8 0, .int .u8 0] 23)).alloc (.cells #[.int .u8 0, .int .u8 0, .int .u8 0, .int .u8 0, .int .u8 0, .int .u8 0, .int .u8 0, .int .u8 0, .int .u8 0, .int .u8 0, .int .u8 0, .int .u8 0, .int .u8 0, .int .u8 0, .int .u8 0, .int .u8 0] 23)).setRow w2.heap.size (cellsB p).toArray) (w2.heap.size + 1)).size = 16 := (by rw [HZ.out, QB1.row]; rfl); have hfB : rowFree (((w2.alloc (.cells #[.int .u8 0, .int .u8 0, .int .u8 0, .int .u8 0, .int .u8 0, .int .u8 0, .int .u8 0, .int .u8 0, .int .u8 0, .int .u8 0, .int .u8 0, .int .u8 0, .int .u8 0, .int .u8 0, .int .u8 0, .int .u8 0] 23)).alloc (.cells #[.int .u8 0, .int .u8 0, .int .u8 0, .int .u8 0, .int .u8 0, .int .u8 0, .int .u8 0, .int .u8 0, .int .u8 0, .int .u8 0, .int .u8 0, .int .u8 0, .int .u8 0, .int .u8 0, .int .u8 0, .int .u8 0] 23)).setRow w2.heap.size (cellsB p).toArray) (w2.heap.size + 1) = true := (by rw [HZ.out]; exact QB1.free); have E2 := alloc2_bel w2 (.cells (cellsB zeroK).toArray 23) (.cells (cellsB zeroK).toArray 23); have P3 := Lib.hid ((PB.setRow (cellsB p).toArray).row_ne (g' := w2.heap.size + 1) (cs' := (cellsB q).toArray) (by omega)); have Q3 := Lib.hid (QB1.setRow (cellsB q).toArray); have R3 := Lib.hid (((R2.below' E2).row_ne (g' := w2.heap.size) (cs' := (cellsB p).toArray) (by omega)).row_ne (g' := w2.heap.size + 1) (cs' := (cellsB q).toArray) (by omega)); have L3 := Lib.hid (((L2.below' E2).row_ne (g' := w2.heap.size) (cs' := (cellsB p).toArray) (by omega)).row_ne (g' := w2.heap.size + 1) (cs' := (cellsB q).toArray) (by omega)); have D3 := Lib.hid (below_setRow (below_setRow (bel_on D2 E2) (g := w2.heap.size) (by omega) (cellsB p).toArray) (g := w2.heap.size + 1) (by omega) (cellsB q).toArray); clear PB QB QB1 R2 L2; clear ho2 hb2)
        | (rw [HZ.out]; refine wpList_load_row rfl 23 (.tmp 8) rfl w2.heap.size rfl 23 (cellsB p).toArray (0, 0) _ P3.out under_key rfl (cellsB_size _ HPL.out) ?_)
        | (refine wpList_load_row rfl 23 (.tmp 3) rfl w.heap.size rfl 23 (cellsB before).toArray (0, 0) _ R3.out under_key rfl (cellsB_size _ HR.out) ?_)
)
      go_ret2
      rw [HS2.out]
      exact ⟨rfl, D3.out⟩
    | true =>
      have HS2 : Hid (vgS before after a b P = (q == after, 0)) := by unfold Hid; rw [HS.out, hpb]; rfl
      clear HS
      go_enter Try.func31, Try.ntmps31
      go_wp2_with (first
        | (go_at_call 83; refine (HF.out _).mono ?_; rintro e w1 ⟨rfl, hb1⟩; have B1 := bel_on b0 hb1; have R1 := R0.out.below' hb1; have L1 := L0.out.below' hb1; have P1 := P0.out.below' hb1; have p0 : w1.cell? ⟨w.heap.size + 1 + 1, 0, none⟩ = some (.int .i64 a) := P1.cell 0; have p1 : w1.cell? ⟨w.heap.size + 1 + 1, 1, none⟩ = some (.int .i64 b) := P1.cell 1; have p2 : w1.cell? ⟨w.heap.size + 1 + 1, 2, none⟩ = some (.slice A m c) := P1.cell 2; have hpt : w.heap.size + 1 + 1 < w1.heap.size := P1.lt; have HR1 := Lib.hid R1; have HL1 := Lib.hid L1; clear P1 hb1 R1 L1)
        | (refine wpList_load_row rfl 23 (.tmp 3) rfl w.heap.size rfl 23 (cellsB before).toArray (0, 0) _ HR1.out under_key rfl (cellsB_size _ HR.out) ?_)
        | (go_at_call 84; refine (HG.out _ B1).mono ?_; rintro e w2 ⟨⟨X2, x2, rs2, rfl, ho2⟩, hb2⟩; have R2 := HR1.out.below' hb2; have L2 := HL1.out.below' hb2; have hw2 : w.heap.size + 1 + 1 < w2.heap.size := Nat.lt_of_lt_of_le hpt hb2.size; have D2 := bel_on B1 hb2; have PB := blk_b0 w2 (cellsB zeroK).toArray 23 (.cells (cellsB zeroK).toArray 23); have QB := blk_b1 w2 (.cells (cellsB zeroK).toArray 23) (cellsB zeroK).toArray 23; have QB1 := QB.row_ne (g' := w2.heap.size) (cs' := (cellsB p).toArray) (by omega); have hrA : (rowAt ((w2.alloc (.cells #[.int .u8 0, .int .u8 0, .int .u8 0, .int .u8 0, .int .u8 0, .int .u8 0, .int .u8 0, .int .u8 0, .int .u8 0, .int .u8 0, .int .u8 0, .int .u8 0, .int .u8 0, .int .u8 0, .int .u8 0, .int .u8 0] 23)).alloc (.cells #[.int .u8 0, .int .u8 0, .int .u8 0, .int .u8 0, .int .u8 0, .int .u8 0, .int .u8 0, .int .u8 0, .int .u8 0, .int .u8 0, .int .u8 0, .int .u8 0, .int .u8 0, .int .u8 0, .int .u8 0, .int .u8 0] 23)) w2.heap.size).size = 16 := (by rw [HZ.out, PB.row]; rfl); have hfA : rowFree ((w2.alloc (.cells #[.int .u8 0, .int .u8 0, .int .u8 0, .int .u8 0, .int .u8 0, .int .u8 0, .int .u8 0, .int .u8 0, .int .u8 0, .int .u8 0, .int .u8 0, .int .u8 0, .int .u8 0, .int .u8 0, .int .u8 0, .int .u8 0] 23)).alloc (.cells #[.int .u8 0, .int .u8 0, .int .u8 0, .int .u8 0, .int .u8 0, .int .u8 0, .int .u8 0, .int .u8 0, .int .u8 0, .int .u8 0, .int .u8 0, .int .u8 0, .int .u8 0, .int .u8 0, .int .u8 0, .int .u8 0] 23)) w2.heap.size = true := (by rw [HZ.out]; exact PB.free); have hrB : (rowAt (((w2.alloc (.cells #[.int .u8 0, .int .u8 0, .int .u8 0, .int .u8 0, .int .u8 0, .int .u8 0, .int .u8 0, .int .u8 0, .int .u8 0, .int .u8 0, .int .u8 0, .int .u8 0, .int .u8 0, .int .u8 0, .int .u8 0, .int .u8 0] 23)).alloc (.cells #[.int .u8 0, .int .u8 0, .int .u8 0, .int .u8 0, .int .u8 0, .int .u8 0, .int .u8 0, .int .u8 0, .int .u8 0, .int .u8 0, .int .u8 0, .int .u8 0, .int .u8 0, .int .u8 0, .int .u8 0, .int .u8 0] 23)).setRow w2.heap.size (cellsB p).toArray) (w2.heap.size + 1)).size = 16 := (by rw [HZ.out, QB1.row]; rfl); have hfB : rowFree (((w2.alloc (.cells #[.int .u8 0, .int .u8 0, .int .u8 0, .int .u8 0, .int .u8 0, .int .u8 0, .int .u8 0, .int .u8 0, .int .u8 0, .int .u8 0, .int .u8 0, .int .u8 0, .int .u8 0, .int .u8 0, .int .u8 0, .int .u8 0] 23)).alloc (.cells #[.int .u8 0, .int .u8 0, .int .u8 0, .int .u8 0, .int .u8 0, .int .u8 0, .int .u8 0, .int .u8 0, .int .u8 0, .int .u8 0, .int .u8 0, .int .u8 0, .int .u8 0, .int .u8 0, .int .u8 0, .int .u8 0] 23)).setRow w2.heap.size (cellsB p).toArray) (w2.heap.size + 1) = true := (by rw [HZ.out]; exact QB1.free); have E2 := alloc2_bel w2 (.cells (cellsB zeroK).toArray 23) (.cells (cellsB zeroK).toArray 23); have P3 := Lib.hid ((PB.setRow (cellsB p).toArray).row_ne (g' := w2.heap.size + 1) (cs' := (cellsB q).toArray) (by omega)); have Q3 := Lib.hid (QB1.setRow (cellsB q).toArray); have R3 := Lib.hid (((R2.below' E2).row_ne (g' := w2.heap.size) (cs' := (cellsB p).toArray) (by omega)).row_ne (g' := w2.heap.size + 1) (cs' := (cellsB q).toArray) (by omega)); have L3 := Lib.hid (((L2.below' E2).row_ne (g' := w2.heap.size) (cs' := (cellsB p).toArray) (by omega)).row_ne (g' := w2.heap.size + 1) (cs' := (cellsB q).toArray) (by omega)); have D3 := Lib.hid (below_setRow (below_setRow (bel_on D2 E2) (g := w2.heap.size) (by omega) (cellsB p).toArray) (g := w2.heap.size + 1) (by omega) (cellsB q).toArray); clear PB QB QB1 R2 L2; clear ho2 hb2)
        | (rw [HZ.out]; refine wpList_load_row rfl 23 (.tmp 8) rfl w2.heap.size rfl 23 (cellsB p).toArray (0, 0) _ P3.out under_key rfl (cellsB_size _ HPL.out) ?_)
        | (refine wpList_load_row rfl 23 (.tmp 3) rfl w.heap.size rfl 23 (cellsB before).toArray (0, 0) _ R3.out under_key rfl (cellsB_size _ HR.out) ?_)
        | ((first | rw [hpb] | skip); refine BigFrame.wpList_want (by kernel_rfl) fun K hK => wp_load_row 23 (.tmp 9) rfl (w2.heap.size + 1) rfl 23 (cellsB q).toArray (0, 0) _ Q3.out under_key rfl (cellsB_size _ HQL.out) (hK _ _ ?_))
        | ((first | rw [hpb] | skip); refine BigFrame.wpList_want (by kernel_rfl) fun K hK => wp_load_row 23 (.tmp 4) rfl (w.heap.size + 1) rfl 23 (cellsB after).toArray (0, 0) _ L3.out under_key rfl (cellsB_size _ HK.out) (hK _ _ ?_)))
      go_ret2
      rw [HS2.out]
      exact ⟨rfl, D3.out⟩
end Go.Proofs.Ytinpiodfpnbllaa

/- Growths: VerifyGrowth and GrowthTexts, the program's and the reference's. -/
namespace Go.Proofs.Ytinpiodfpnbllaa
open Go.RowKit
set_option linter.unusedVariables false
set_option linter.unusedSimpArgs false
attribute [local go_sem] run_storeCells_key run_storeCells_new equalIn_keys


set_option maxHeartbeats 4000000 in
set_option maxRecDepth 100000 in
theorem GrowthTexts_any (before : List UInt8) (a b : Int) (P : List (List UInt8)) (A : Option Addr) (c : Nat) (w : World) {m : Nat} (hm : P.length = m) (hr : before.length = 16) (h : KR w A c P) :
    Calls Try.prog 32 #[.agg (cellsB before).toArray, .agg #[.int .i64 a, .int .i64 b, .slice A m c]] w fun e w' => TxEnd (gtS before a b P).1 (gtS before a b P).2 e w' ∧ Below w.heap.size w w' := by
  have HR := Lib.hid hr
  have HZ := Lib.hid zero16
  have b0 := alloc2_bel w (.cells (cellsB before).toArray 23) (.cells #[.int .i64 a, .int .i64 b, .slice A m c] 59)
  have R0 := Lib.hid (blk_b0 w (cellsB before).toArray 23 (.cells #[.int .i64 a, .int .i64 b, .slice A m c] 59))
  have P0 := Lib.hid (blk_b1 w (.cells (cellsB before).toArray 23) #[.int .i64 a, .int .i64 b, .slice A m c] 59)
  have hml := h.len
  have HF : Hid (∀ W, Calls Try.prog 81 #[.agg #[.int .i64 a, .int .i64 b, .slice A m c]] W fun e w' => e = .returned (.bool (fitsGB a b m)) ∧ Below W.heap.size W w') := fun W => fitsGrowth_any a b A m c W (by omega)
  cases hf : fitsGB a b m with
  | false =>
    have HS : Hid (gtS before a b P = ([], 8)) := by unfold Hid gtS; rw [hm, hf]; rfl
    rw [hf] at HF
    clear hf hm hr h hml
    go_enter Try.func32, Try.ntmps32
    go_wp2_with (go_at_call 81; refine (HF.out _).mono ?_; rintro e w1 ⟨rfl, hb1⟩; have B1 := Lib.hid (bel_on b0 hb1); clear hb1)
    go_ret2
    rw [HS.out]
    exact ⟨⟨none, 0, [], rfl, rfl, RR.nil _⟩, B1.out⟩
  | true =>
    have HS : Hid (gtS before a b P = ((growS before b.toNat a.toNat P).2.2, 0)) := by unfold Hid gtS; rw [hm, hf]; rfl
    rw [hf] at HF
    obtain ⟨⟨g1, g2, g3⟩, g4⟩ := fitsGB_iff.1 hf
    have HG : Hid (∀ W, Below w.heap.size w W → Calls Try.prog 82 #[.pointer (some ⟨W.heap.size, 0, none⟩), .agg (cellsB before).toArray, .int .i64 b, .int .i64 a, .slice A m c] (W.alloc (.cells #[.slice none 0 0] 119)) (GrowEnd W W.heap.size [] (growS before b.toNat a.toNat P) (W.alloc (.cells #[.slice none 0 0] 119)))) := fun W hW => by
      have := grow_any W W.heap.size before hr b.toNat a.toNat true P A c [] (W.alloc (.cells #[.slice none 0 0] 119)) (by omega) (by omega) (by omega) (by rw [hm]; exact g4) (h.below hW) (alloc_bel _ _) (TX.new W) (by simp only [List.length_nil]; omega)
      rwa [hm, Int.toNat_of_nonneg (by omega), Int.toNat_of_nonneg (by omega)] at this
    have hpl := (growS_length hr b.toNat a.toNat (path := P) h.2).1
    have hql := (growS_length hr b.toNat a.toNat (path := P) h.2).2
    have hle := growS_le before b.toNat a.toNat P
    have HSH := Lib.hid (growS_short hr b.toNat a.toNat P h.2)
    generalize growS before b.toNat a.toNat P = r at HS HG hpl hql hle HSH
    obtain ⟨p, q, x⟩ := r
    unfold GrowEnd at HG
    dsimp only at HS HG hpl hql hle HSH
    have HLE : Hid (x.length ≤ 100000) := by unfold Hid; omega
    have hpc : (cellsB p).length = 16 := by rw [cellsB_length, hpl]
    have hpa := all16 p
    have hqc : (cellsB q).length = 16 := by rw [cellsB_length, hql]
    have hqa := all16 q
    clear hf hm hr h hml g1 g2 g3 g4 hpl hql hle
    go_enter Try.func32, Try.ntmps32
    go_wp2_with (first
      | (go_at_call 81; refine (HF.out _).mono ?_; rintro e w1 ⟨rfl, hb1⟩; have B1 := bel_on b0 hb1; have R1 := R0.out.below' hb1; have P1 := P0.out.below' hb1; have p0 : w1.cell? ⟨w.heap.size + 1, 0, none⟩ = some (.int .i64 a) := P1.cell 0; have p1 : w1.cell? ⟨w.heap.size + 1, 1, none⟩ = some (.int .i64 b) := P1.cell 1; have p2 : w1.cell? ⟨w.heap.size + 1, 2, none⟩ = some (.slice A m c) := P1.cell 2; have hpt : w.heap.size + 1 < w1.heap.size := P1.lt; have HR1 := Lib.hid R1; clear P1 hb1 R1)
      | (refine wpList_load_row rfl 23 (.tmp 2) rfl w.heap.size rfl 23 (cellsB before).toArray (0, 0) _ (HR1.out.alloc _) under_key rfl (cellsB_size _ HR.out) ?_)
      | (go_at_call 82; refine (HG.out w1 B1).mono ?_; rintro e w2 ⟨rfl, ht2, hk2, hb2⟩; rw [List.nil_append] at ht2; have bb := (alloc_bel w1 (.cells #[.slice none 0 0] 119)).trans hb2; have D2 := Lib.hid (bel_on B1 bb); obtain ⟨A2, c2, rs2, hc2, hrs, hrr⟩ := ht2.rr HLE.out; have HRS := Lib.hid hrs; have HRR := Lib.hid hrr; generalize hq2 : rs2.length = k2 at hc2; have HQ2 := Lib.hid hq2; clear ht2 hk2 hb2 bb hrs hrr hq2))
    go_ret2
    rw [HS.out]
    exact ⟨⟨A2, c2, rs2, by rw [HQ2.out]; rfl, HRS.out, HRR.out⟩, D2.out⟩

set_option maxHeartbeats 4000000 in
set_option maxRecDepth 100000 in
theorem refGrowthTexts_any (before : List UInt8) (a b : Int) (P : List (List UInt8)) (A : Option Addr) (c : Nat) (w : World) {m : Nat} (hm : P.length = m) (hr : before.length = 16) (h : KR w A c P) :
    Calls Try.prog 33 #[.agg (cellsB before).toArray, .agg #[.int .i64 a, .int .i64 b, .slice A m c]] w fun e w' => TxEnd (gtS before a b P).1 (gtS before a b P).2 e w' ∧ Below w.heap.size w w' := by
  have HR := Lib.hid hr
  have HZ := Lib.hid zero16
  have b0 := alloc2_bel w (.cells (cellsB before).toArray 23) (.cells #[.int .i64 a, .int .i64 b, .slice A m c] 59)
  have R0 := Lib.hid (blk_b0 w (cellsB before).toArray 23 (.cells #[.int .i64 a, .int .i64 b, .slice A m c] 59))
  have P0 := Lib.hid (blk_b1 w (.cells (cellsB before).toArray 23) #[.int .i64 a, .int .i64 b, .slice A m c] 59)
  have hml := h.len
  have HF : Hid (∀ W, Calls Try.prog 83 #[.agg #[.int .i64 a, .int .i64 b, .slice A m c]] W fun e w' => e = .returned (.bool (fitsGB a b m)) ∧ Below W.heap.size W w') := fun W => refFitsGrowth_any a b A m c W (by omega)
  cases hf : fitsGB a b m with
  | false =>
    have HS : Hid (gtS before a b P = ([], 8)) := by unfold Hid gtS; rw [hm, hf]; rfl
    rw [hf] at HF
    clear hf hm hr h hml
    go_enter Try.func33, Try.ntmps33
    go_wp2_with (go_at_call 83; refine (HF.out _).mono ?_; rintro e w1 ⟨rfl, hb1⟩; have B1 := Lib.hid (bel_on b0 hb1); clear hb1)
    go_ret2
    rw [HS.out]
    exact ⟨⟨none, 0, [], rfl, rfl, RR.nil _⟩, B1.out⟩
  | true =>
    have HS : Hid (gtS before a b P = ((growS before b.toNat a.toNat P).2.2, 0)) := by unfold Hid gtS; rw [hm, hf]; rfl
    rw [hf] at HF
    obtain ⟨⟨g1, g2, g3⟩, g4⟩ := fitsGB_iff.1 hf
    have HG : Hid (∀ W, Below w.heap.size w W → Calls Try.prog 84 #[.agg (cellsB before).toArray, .int .i64 b, .int .i64 a, .bool true, .slice A m c] W (GrownEnd (growS before b.toNat a.toNat P) W)) := fun W hW => by
      have := refGrown_any before hr b.toNat a.toNat true P A c W (by omega) (by omega) (by omega) (by rw [hm]; exact g4) (h.below hW)
      rwa [hm, Int.toNat_of_nonneg (by omega), Int.toNat_of_nonneg (by omega)] at this
    have hpl := (growS_length hr b.toNat a.toNat (path := P) h.2).1
    have hql := (growS_length hr b.toNat a.toNat (path := P) h.2).2
    have hle := growS_le before b.toNat a.toNat P
    have HSH := Lib.hid (growS_short hr b.toNat a.toNat P h.2)
    generalize growS before b.toNat a.toNat P = r at HS HG hpl hql hle HSH
    obtain ⟨p, q, x⟩ := r
    unfold GrownEnd at HG
    dsimp only at HS HG hpl hql hle HSH
    have HLE : Hid (x.length ≤ 100000) := by unfold Hid; omega
    have hpc : (cellsB p).length = 16 := by rw [cellsB_length, hpl]
    have hpa := all16 p
    have hqc : (cellsB q).length = 16 := by rw [cellsB_length, hql]
    have hqa := all16 q
    clear hf hm hr h hml g1 g2 g3 g4 hpl hql hle
    go_enter Try.func33, Try.ntmps33
    go_wp2_with (first
      | (go_at_call 83; refine (HF.out _).mono ?_; rintro e w1 ⟨rfl, hb1⟩; have B1 := bel_on b0 hb1; have R1 := R0.out.below' hb1; have P1 := P0.out.below' hb1; have p0 : w1.cell? ⟨w.heap.size + 1, 0, none⟩ = some (.int .i64 a) := P1.cell 0; have p1 : w1.cell? ⟨w.heap.size + 1, 1, none⟩ = some (.int .i64 b) := P1.cell 1; have p2 : w1.cell? ⟨w.heap.size + 1, 2, none⟩ = some (.slice A m c) := P1.cell 2; have hpt : w.heap.size + 1 < w1.heap.size := P1.lt; have HR1 := Lib.hid R1; clear P1 hb1 R1)
      | (refine wpList_load_row rfl 23 (.tmp 2) rfl w.heap.size rfl 23 (cellsB before).toArray (0, 0) _ HR1.out under_key rfl (cellsB_size _ HR.out) ?_)
      | (go_at_call 84; refine (HG.out _ B1).mono ?_; rintro e w2 ⟨⟨X2, x2, rs2, rfl, ho2⟩, hb2⟩; have PB := blk_b0 w2 (cellsB zeroK).toArray 23 (.cells (cellsB zeroK).toArray 23); have QB := blk_b1 w2 (.cells (cellsB zeroK).toArray 23) (cellsB zeroK).toArray 23; have QB1 := QB.row_ne (g' := w2.heap.size) (cs' := (cellsB p).toArray) (by omega); have hrA : (rowAt ((w2.alloc (.cells #[.int .u8 0, .int .u8 0, .int .u8 0, .int .u8 0, .int .u8 0, .int .u8 0, .int .u8 0, .int .u8 0, .int .u8 0, .int .u8 0, .int .u8 0, .int .u8 0, .int .u8 0, .int .u8 0, .int .u8 0, .int .u8 0] 23)).alloc (.cells #[.int .u8 0, .int .u8 0, .int .u8 0, .int .u8 0, .int .u8 0, .int .u8 0, .int .u8 0, .int .u8 0, .int .u8 0, .int .u8 0, .int .u8 0, .int .u8 0, .int .u8 0, .int .u8 0, .int .u8 0, .int .u8 0] 23)) w2.heap.size).size = 16 := (by rw [HZ.out, PB.row]; rfl); have hfA : rowFree ((w2.alloc (.cells #[.int .u8 0, .int .u8 0, .int .u8 0, .int .u8 0, .int .u8 0, .int .u8 0, .int .u8 0, .int .u8 0, .int .u8 0, .int .u8 0, .int .u8 0, .int .u8 0, .int .u8 0, .int .u8 0, .int .u8 0, .int .u8 0] 23)).alloc (.cells #[.int .u8 0, .int .u8 0, .int .u8 0, .int .u8 0, .int .u8 0, .int .u8 0, .int .u8 0, .int .u8 0, .int .u8 0, .int .u8 0, .int .u8 0, .int .u8 0, .int .u8 0, .int .u8 0, .int .u8 0, .int .u8 0] 23)) w2.heap.size = true := (by rw [HZ.out]; exact PB.free); have hrB : (rowAt (((w2.alloc (.cells #[.int .u8 0, .int .u8 0, .int .u8 0, .int .u8 0, .int .u8 0, .int .u8 0, .int .u8 0, .int .u8 0, .int .u8 0, .int .u8 0, .int .u8 0, .int .u8 0, .int .u8 0, .int .u8 0, .int .u8 0, .int .u8 0] 23)).alloc (.cells #[.int .u8 0, .int .u8 0, .int .u8 0, .int .u8 0, .int .u8 0, .int .u8 0, .int .u8 0, .int .u8 0, .int .u8 0, .int .u8 0, .int .u8 0, .int .u8 0, .int .u8 0, .int .u8 0, .int .u8 0, .int .u8 0] 23)).setRow w2.heap.size (cellsB p).toArray) (w2.heap.size + 1)).size = 16 := (by rw [HZ.out, QB1.row]; rfl); have hfB : rowFree (((w2.alloc (.cells #[.int .u8 0, .int .u8 0, .int .u8 0, .int .u8 0, .int .u8 0, .int .u8 0, .int .u8 0, .int .u8 0, .int .u8 0, .int .u8 0, .int .u8 0, .int .u8 0, .int .u8 0, .int .u8 0, .int .u8 0, .int .u8 0] 23)).alloc (.cells #[.int .u8 0, .int .u8 0, .int .u8 0, .int .u8 0, .int .u8 0, .int .u8 0, .int .u8 0, .int .u8 0, .int .u8 0, .int .u8 0, .int .u8 0, .int .u8 0, .int .u8 0, .int .u8 0, .int .u8 0, .int .u8 0] 23)).setRow w2.heap.size (cellsB p).toArray) (w2.heap.size + 1) = true := (by rw [HZ.out]; exact QB1.free); have hzw : w.heap.size ≤ w2.heap.size := (bel_on B1 hb2).size; have E2 := alloc2_bel w2 (.cells (cellsB zeroK).toArray 23) (.cells (cellsB zeroK).toArray 23); have T3 := Lib.hid (((ho2.below E2).row PB (cellsB p).toArray).row QB1 (cellsB q).toArray); have D3 := Lib.hid (below_setRow (below_setRow (bel_on (bel_on B1 hb2) E2) (g := w2.heap.size) (by omega) (cellsB p).toArray) (g := w2.heap.size + 1) (by omega) (cellsB q).toArray); generalize hq2 : rs2.length = k2; have HQ2 := Lib.hid hq2; clear PB QB QB1 ho2 hb2 hq2))
    rw [HZ.out]
    go_ret2
    rw [HS.out]
    exact ⟨⟨X2, x2, rs2, by rw [HQ2.out]; rfl, T3.out.1, T3.out.rr HLE.out HSH.out⟩, D3.out⟩
end Go.Proofs.Ytinpiodfpnbllaa

/- Two equal lists of keys are the same. -/
namespace Go.Proofs.Ytinpiodfpnbllaa
open Go.RowKit
set_option linter.unusedVariables false
attribute [local go_sem] equalIn_keys

set_option maxHeartbeats 1000000 in
set_option maxRecDepth 100000 in
theorem sameKeys_any (ks : List (List UInt8)) (A : Option Addr) (c : Nat) (B : Option Addr) (d : Nat) (w : World) {n : Nat} (hn : ks.length = n) (h : KR w A c ks) (h' : KR w B d ks) :
    Calls Try.prog 25 #[.slice A n c, .slice B n d] w fun e w' => e = .returned (.bool true) ∧ Below w.heap.size w w' := by
  have hnl : (n : Int) ≤ 140737488351232 := by have := h.len; omega
  have HN := Lib.hid hn
  have H := Lib.hid h
  have H' := Lib.hid h'
  clear hn h h'
  go_enter Try.func25, Try.ntmps25
  go_wp2_with fail
  go_loopw [5] (fun vi wr => ∃ i : Nat, i ≤ n ∧ vi = .int .i64 (i : Int) ∧ Below w.heap.size w wr) (fun vi _ => n - (intOf vi).toNat)
  case atStart => exact ⟨0, by omega, rfl, Below.refl _ _⟩
  case round =>
    obtain ⟨i, hi, rfl, hbel⟩ := hrel
    by_cases hlt : i < n
    · have hii : (i : Int) < n := by omega
      have hil : i < ks.length := by have := HN.out; omega
      obtain ⟨g1, o1, rfl, hg1, hr1⟩ := (H.out.below hbel).at_ hil
      obtain ⟨g2, o2, rfl, hg2, hr2⟩ := (H'.out.below hbel).at_ hil
      have hk : ks[i].length = 16 := H.out.2 _ (List.getElem_mem hil)
      have HR1 := Lib.hid (range_below hr1 (Below.refl _ _).drew)
      have HR2 := Lib.hid (range_below hr2 (Below.refl _ _).drew)
      obtain ⟨k, hkk⟩ : ∃ k, ks[i] = k := ⟨_, rfl⟩
      rw [hkk] at HR1 HR2 hk
      have HK := Lib.hid hk
      have hz : ∀ W, (Op.equalIn 10000 23 (.agg (cellsB k).toArray) (.agg (cellsB k).toArray)).run Try.prog W = .ok true W := fun W => by rw [equalIn_keys W k k HK.out HK.out]; simp
      clear hr1 hr2 hk hkk hil
      go_wp2_with fail
      refine wp_region_noPanic ?_
      refine wp_region_held_drew (S := fun w' => w'.rangeAt g1 (o1 + i * 16) (cellsB k) ∧ w'.rangeAt g2 (o2 + i * 16) (cellsB k)) (by kernel_rfl) ⟨HR1.out, HR2.out⟩ (fun hS => ?_)
      refine hd_take 0 (.slice (some ⟨g1, o1, none⟩) n c) rfl rfl (by kernel_rfl) (by kernel_rfl) (by kernel_rfl) (fun _ _ _ h => h) (fun w _ => by go_simp) hS ?_
      refine hd_take 1 (.int .i64 (i : Int)) rfl rfl (by kernel_rfl) (by kernel_rfl) (by kernel_rfl) (fun _ _ _ h => h) (fun w _ => by go_simp) hS ?_
      refine hd_take 4 (.slice (some ⟨g2, o2, none⟩) n d) rfl rfl (by kernel_rfl) (by kernel_rfl) (by kernel_rfl) (fun _ _ _ h => h) (fun w _ => by go_simp) hS ?_
      refine hd_take 5 (.int .i64 (i : Int)) rfl rfl (by kernel_rfl) (by kernel_rfl) (by kernel_rfl) (fun _ _ _ h => h) (fun w _ => by go_simp) hS ?_
      simp only [List.getElem_toArray, List.getElem_cons_succ, List.getElem_cons_zero, Act.put, List.setIfInBounds_toArray, List.set_cons_zero, List.set_cons_succ]
      refine hd_take 2 (.pointer (some ⟨g1, o1 + i * 16, none⟩)) rfl rfl (by kernel_rfl) (by kernel_rfl) (by kernel_rfl) (fun _ _ _ h => h) (fun w _ => by go_simp) hS ?_
      refine hd_take 6 (.pointer (some ⟨g2, o2 + i * 16, none⟩)) rfl rfl (by kernel_rfl) (by kernel_rfl) (by kernel_rfl) (fun _ _ _ h => h) (fun w _ => by go_simp) hS ?_
      simp only [List.getElem_toArray, List.getElem_cons_succ, List.getElem_cons_zero, Act.put, List.setIfInBounds_toArray, List.set_cons_zero, List.set_cons_succ]
      refine hd_load 3 g1 (o1 + i * 16) (cellsB k) _ _ rfl rfl rfl (by kernel_rfl) (by kernel_rfl) (by kernel_rfl) (fun _ _ _ h => h) rfl (fun w hw => hw.1) under_key rfl (key_info HK.out) hS ?_
      simp only [List.getElem_toArray, List.getElem_cons_succ, List.getElem_cons_zero, Act.put, List.setIfInBounds_toArray, List.set_cons_zero, List.set_cons_succ]
      refine hd_load 7 g2 (o2 + i * 16) (cellsB k) _ _ rfl rfl rfl (by kernel_rfl) (by kernel_rfl) (by kernel_rfl) (fun _ _ _ h => h) rfl (fun w hw => hw.2) under_key rfl (key_info HK.out) hS ?_
      simp only [List.getElem_toArray, List.getElem_cons_succ, List.getElem_cons_zero, Act.put, List.setIfInBounds_toArray, List.set_cons_zero, List.set_cons_succ]
      refine hd_take 8 (.bool false) rfl rfl (by kernel_rfl) (by kernel_rfl) (by kernel_rfl) (fun _ _ _ h => h) (fun w _ => by go_simp) hS ?_
      refine wpAnyH_done (by kernel_rfl) (NoPanic.normal ?_) _
      simp only [List.getElem_toArray, List.getElem_cons_succ, List.getElem_cons_zero, Act.put, List.setIfInBounds_toArray, List.set_cons_zero, List.set_cons_succ]
      go_wp2_with fail
      go_roundw
      case rel => exact ⟨i + 1, by omega, by go_num, hbel.drew⟩
      case measure => simp [intOf]; omega
    · obtain rfl : i = n := by omega
      have hii : (i : Int) ≤ i := Int.le_refl _
      go_wp2_with fail
      go_ret
      exact ⟨rfl, hbel⟩
end Go.Proofs.Ytinpiodfpnbllaa

/- Equal lists of texts, and equal proofs, are the same. -/
namespace Go.Proofs.Ytinpiodfpnbllaa
open Go.RowKit
set_option linter.unusedVariables false
set_option linter.unusedSimpArgs false

set_option maxHeartbeats 1000000 in
set_option maxRecDepth 100000 in
theorem sameTexts_any (ts : List (List UInt8)) (A : Option Addr) (c : Nat) (rs : List BRow) (B : Option Addr) (d : Nat) (ss : List BRow) (w : World) {n m : Nat} (hn : rs.length = n) (hm : ss.length = m) (h1 : rs.map BRow.l = ts) (h2 : ss.map BRow.l = ts) (h : RR w A c rs) (h' : RR w B d ss) :
    Calls Try.prog 19 #[.slice A n c, .slice B m d] w fun e w' => e = .returned (.bool true) ∧ Below w.heap.size w w' := by
  have hnl : (n : Int) ≤ 140737488351232 := by have := h.1.len; omega
  obtain rfl : m = n := by rw [← hm, ← hn, ← List.length_map (f := BRow.l), h2, ← h1, List.length_map]
  have HN := Lib.hid hn
  have HM := Lib.hid hm
  have H := Lib.hid h
  have H' := Lib.hid h'
  have H1 := Lib.hid h1
  have H2 := Lib.hid h2
  clear hn hm h h' h1 h2
  go_enter Try.func19, Try.ntmps19
  go_wp2_with fail
  go_loopw [5] (fun vi wr => ∃ i : Nat, i ≤ m ∧ vi = .int .i64 (i : Int) ∧ Below w.heap.size w wr) (fun vi _ => m - (intOf vi).toNat)
  case atStart => exact ⟨0, by omega, rfl, Below.refl _ _⟩
  case round =>
    obtain ⟨i, hi, rfl, hbel⟩ := hrel
    by_cases hlt : i < m
    · have hii : (i : Int) < m := by omega
      obtain ⟨b1, o1, r1, rfl, hb1, hr1, hc1, hl1⟩ := (H.out.on hbel).cellAt (i := i) (by have := HN.out; omega)
      obtain ⟨b2, o2, r2, rfl, hb2, hr2, hc2, hl2⟩ := (H'.out.on hbel).cellAt (i := i) (by have := HM.out; omega)
      have he : r1.l = r2.l := by
        have e1 : ts[i]? = some r1.l := by rw [← H1.out, List.getElem?_map, hr1]; rfl
        have e2 : ts[i]? = some r2.l := by rw [← H2.out, List.getElem?_map, hr2]; rfl
        rw [e1] at e2
        injection e2
      obtain ⟨A1, c1, l1⟩ := r1
      obtain ⟨A2, c2, l2⟩ := r2
      simp only at he hc1 hl1 hc2 hl2
      subst he
      obtain ⟨q, hq⟩ : ∃ q, l1.length = q := ⟨_, rfl⟩
      rw [hq] at hc1 hc2
      have HQ := Lib.hid hq
      have HC1 := Lib.hid hc1
      have HC2 := Lib.hid hc2
      have HL1 := Lib.hid hl1
      have HL2 := Lib.hid hl2
      generalize hstr : strB l1 = s1
      have HST := Lib.hid hstr
      clear hc1 hc2 hl1 hl2 hr1 hr2 hq hstr
      go_wp2_with fail
      refine wp_region_noPanic ?_
      refine wp_region_held_drew (S := fun w' => w'.cell? ⟨b1, o1 + i, none⟩ = some (.slice A1 q c1) ∧ w'.cell? ⟨b2, o2 + i, none⟩ = some (.slice A2 q c2) ∧ BR w' A1 c1 l1 ∧ BR w' A2 c2 l1) (by kernel_rfl) ⟨HC1.out, HC2.out, HL1.out.below (Below.refl _ _).drew, HL2.out.below (Below.refl _ _).drew⟩ (fun hS => ?_)
      refine hd_take 0 (_) rfl rfl (by kernel_rfl) (by kernel_rfl) (by kernel_rfl) (fun _ _ _ h => h) (fun w _ => by go_simp <;> rfl) hS ?_
      refine hd_take 1 (_) rfl rfl (by kernel_rfl) (by kernel_rfl) (by kernel_rfl) (fun _ _ _ h => h) (fun w _ => by go_simp <;> rfl) hS ?_
      refine hd_take 5 (_) rfl rfl (by kernel_rfl) (by kernel_rfl) (by kernel_rfl) (fun _ _ _ h => h) (fun w _ => by go_simp <;> rfl) hS ?_
      refine hd_take 6 (_) rfl rfl (by kernel_rfl) (by kernel_rfl) (by kernel_rfl) (fun _ _ _ h => h) (fun w _ => by go_simp <;> rfl) hS ?_
      simp only [List.getElem_toArray, List.getElem_cons_succ, List.getElem_cons_zero, Act.put, List.setIfInBounds_toArray, List.set_cons_zero, List.set_cons_succ]
      refine hd_take 2 (_) rfl rfl (by kernel_rfl) (by kernel_rfl) (by kernel_rfl) (fun _ _ _ h => h) (fun w _ => by go_simp <;> rfl) hS ?_
      refine hd_take 7 (_) rfl rfl (by kernel_rfl) (by kernel_rfl) (by kernel_rfl) (fun _ _ _ h => h) (fun w _ => by go_simp <;> rfl) hS ?_
      simp only [List.getElem_toArray, List.getElem_cons_succ, List.getElem_cons_zero, Act.put, List.setIfInBounds_toArray, List.set_cons_zero, List.set_cons_succ]
      refine hd_take 3 (.slice A1 q c1) rfl rfl (by kernel_rfl) (by kernel_rfl) (by kernel_rfl) (fun _ _ _ h => h) (fun w hw => by have hx := hw.1; simp [go_sem, hx]) hS ?_
      refine hd_take 8 (.slice A2 q c2) rfl rfl (by kernel_rfl) (by kernel_rfl) (by kernel_rfl) (fun _ _ _ h => h) (fun w hw => by have hx := hw.2.1; simp [go_sem, hx]) hS ?_
      simp only [List.getElem_toArray, List.getElem_cons_succ, List.getElem_cons_zero, Act.put, List.setIfInBounds_toArray, List.set_cons_zero, List.set_cons_succ]
      refine hd_take 4 (.string s1) rfl rfl (by kernel_rfl) (by kernel_rfl) (by kernel_rfl) (fun _ _ _ h => h) (fun w hw => by have hx := run_string_br hw.2.2.1 q HQ.out; rw [HST.out] at hx; simp [execOp, Act.eval, Act.put, Sem.run_bind, hx]) hS ?_
      refine hd_take 9 (.string s1) rfl rfl (by kernel_rfl) (by kernel_rfl) (by kernel_rfl) (fun _ _ _ h => h) (fun w hw => by have hx := run_string_br hw.2.2.2 q HQ.out; rw [HST.out] at hx; simp [execOp, Act.eval, Act.put, Sem.run_bind, hx]) hS ?_
      simp only [List.getElem_toArray, List.getElem_cons_succ, List.getElem_cons_zero, Act.put, List.setIfInBounds_toArray, List.set_cons_zero, List.set_cons_succ]
      refine hd_take 10 (.bool false) rfl rfl (by kernel_rfl) (by kernel_rfl) (by kernel_rfl) (fun _ _ _ h => h) (fun w _ => by go_simp) hS ?_
      refine wpAnyH_done (by kernel_rfl) (NoPanic.normal ?_) _
      simp only [List.getElem_toArray, List.getElem_cons_succ, List.getElem_cons_zero, Act.put, List.setIfInBounds_toArray, List.set_cons_zero, List.set_cons_succ]
      go_wp2_with fail
      go_roundw
      case rel => exact ⟨i + 1, by omega, by go_num, hbel.drew⟩
      case measure => simp [intOf]; omega
    · obtain rfl : i = m := by omega
      have hii : (i : Int) ≤ i := Int.le_refl _
      go_wp2_with fail
      go_ret
      exact ⟨rfl, hbel⟩

set_option maxHeartbeats 1000000 in
set_option maxRecDepth 100000 in
theorem sameProof_any (a b : Int) (P : List (List UInt8)) (A : Option Addr) (c : Nat) (B : Option Addr) (d : Nat) (w : World) {n : Nat} (hn : P.length = n) (h : KR w A c P) (h' : KR w B d P) :
    Calls Try.prog 22 #[.agg (prC a b A n c).toArray, .agg (prC a b B n d).toArray] w fun e w' => e = .returned (.bool true) ∧ Below w.heap.size w w' := by
  have b0 := alloc2_bel w (.cells #[.int .i64 a, .int .i64 b, .slice A n c] 52) (.cells #[.int .i64 a, .int .i64 b, .slice B n d] 52)
  have HS : Hid (Calls Try.prog 25 #[.slice A n c, .slice B n d] ((w.alloc (.cells #[.int .i64 a, .int .i64 b, .slice A n c] 52)).alloc (.cells #[.int .i64 a, .int .i64 b, .slice B n d] 52)) fun e w' => e = .returned (.bool true) ∧ Below (((w.alloc (.cells #[.int .i64 a, .int .i64 b, .slice A n c] 52)).alloc (.cells #[.int .i64 a, .int .i64 b, .slice B n d] 52))).heap.size ((w.alloc (.cells #[.int .i64 a, .int .i64 b, .slice A n c] 52)).alloc (.cells #[.int .i64 a, .int .i64 b, .slice B n d] 52)) w') := sameKeys_any P A c B d _ hn (h.below b0) (h'.below b0)
  clear hn h h'
  unfold prC
  go_enter Try.func22, Try.ntmps22
  go_wp2_with (go_at_call 25; refine HS.out.mono ?_; rintro e w1 ⟨rfl, hb1⟩; have b1 := bel_on b0 hb1)
  go_ret
  exact ⟨rfl, b1⟩
end Go.Proofs.Ytinpiodfpnbllaa

/- The law AuditVerifies: the walk. -/
namespace Go.Proofs.Ytinpiodfpnbllaa
open Go.RowKit
set_option linter.unusedVariables false
set_option linter.unusedSimpArgs false

theorem blk_e3 (w : World) (o0 o1 o2 : Obj) (cs : Array Value) (t : TypeId) : Blk ((((w.alloc o0).alloc o1).alloc o2).alloc (.cells cs t)) (w.heap.size + 1 + 1 + 1) t cs := by
  have h := Blk.new (((w.alloc o0).alloc o1).alloc o2) t cs
  simpa using h
theorem size_e4 (w : World) (o0 o1 o2 o3 : Obj) : ((((w.alloc o0).alloc o1).alloc o2).alloc o3).heap.size = w.heap.size + 1 + 1 + 1 + 1 := by simp
theorem alloc5_bel (w : World) (o0 o1 o2 o3 o4 : Obj) : Below w.heap.size w (((((w.alloc o0).alloc o1).alloc o2).alloc o3).alloc o4) := (((((Below.refl _ _).alloc (Nat.le_refl _) o0).alloc (by simp) o1).alloc (by simp; omega) o2).alloc (by simp; omega) o3).alloc (by simp; omega) o4

set_option maxHeartbeats 8000000 in
set_option maxRecDepth 100000 in
theorem auditVerifies_walk (root leaf : List UInt8) (a b : Int) (A : Option Addr) (c : Nat) (P : List (List UInt8)) (after : List UInt8) (u v : Int) (G : Option Addr) (d : Nat) (Q : List (List UInt8)) (w : World) (hr : root.length = 16) (hl : leaf.length = 16) (hP : KR w A c P) (ha : after.length = 16) (hQ : KR w G d Q) :
    Calls Try.prog 5 #[.agg (cellsB root).toArray, .agg (cellsB leaf).toArray, .agg #[.int .i64 a, .int .i64 b, .slice A P.length c], .agg (cellsB after).toArray, .agg #[.int .i64 u, .int .i64 v, .slice G Q.length d]] w fun e w' => e = .returned (.bool true) ∧ Below w.heap.size w w' := by
  obtain ⟨m, hm⟩ : ∃ n, P.length = n := ⟨_, rfl⟩
  obtain ⟨k, hk⟩ : ∃ n, Q.length = n := ⟨_, rfl⟩
  rw [hm, hk]
  have HR := Lib.hid hr
  have HL := Lib.hid hl
  have HA := Lib.hid ha
  have b0 : Below w.heap.size w (((((w.alloc (.cells (cellsB root).toArray 23)).alloc (.cells (cellsB leaf).toArray 23)).alloc (.cells #[.int .i64 a, .int .i64 b, .slice A m c] 52)).alloc (.cells (cellsB after).toArray 23)).alloc (.cells #[.int .i64 u, .int .i64 v, .slice G k d] 59)) := alloc5_bel w _ _ _ _ _
  have D0 : Below (((((w.alloc (.cells (cellsB root).toArray 23)).alloc (.cells (cellsB leaf).toArray 23)).alloc (.cells #[.int .i64 a, .int .i64 b, .slice A m c] 52)).alloc (.cells (cellsB after).toArray 23)).alloc (.cells #[.int .i64 u, .int .i64 v, .slice G k d] 59)).heap.size (((((w.alloc (.cells (cellsB root).toArray 23)).alloc (.cells (cellsB leaf).toArray 23)).alloc (.cells #[.int .i64 a, .int .i64 b, .slice A m c] 52)).alloc (.cells (cellsB after).toArray 23)).alloc (.cells #[.int .i64 u, .int .i64 v, .slice G k d] 59)) (((((w.alloc (.cells (cellsB root).toArray 23)).alloc (.cells (cellsB leaf).toArray 23)).alloc (.cells #[.int .i64 a, .int .i64 b, .slice A m c] 52)).alloc (.cells (cellsB after).toArray 23)).alloc (.cells #[.int .i64 u, .int .i64 v, .slice G k d] 59)) := Below.refl _ _
  have BR : Hid (∀ W, Below (((((w.alloc (.cells (cellsB root).toArray 23)).alloc (.cells (cellsB leaf).toArray 23)).alloc (.cells #[.int .i64 a, .int .i64 b, .slice A m c] 52)).alloc (.cells (cellsB after).toArray 23)).alloc (.cells #[.int .i64 u, .int .i64 v, .slice G k d] 59)).heap.size (((((w.alloc (.cells (cellsB root).toArray 23)).alloc (.cells (cellsB leaf).toArray 23)).alloc (.cells #[.int .i64 a, .int .i64 b, .slice A m c] 52)).alloc (.cells (cellsB after).toArray 23)).alloc (.cells #[.int .i64 u, .int .i64 v, .slice G k d] 59)) W → Blk W w.heap.size 23 (cellsB root).toArray) := fun W hW => Blk.below' (((((Blk.new w 23 (cellsB root).toArray).alloc _).alloc _).alloc _).alloc _) hW
  have BL : Hid (∀ W, Below (((((w.alloc (.cells (cellsB root).toArray 23)).alloc (.cells (cellsB leaf).toArray 23)).alloc (.cells #[.int .i64 a, .int .i64 b, .slice A m c] 52)).alloc (.cells (cellsB after).toArray 23)).alloc (.cells #[.int .i64 u, .int .i64 v, .slice G k d] 59)).heap.size (((((w.alloc (.cells (cellsB root).toArray 23)).alloc (.cells (cellsB leaf).toArray 23)).alloc (.cells #[.int .i64 a, .int .i64 b, .slice A m c] 52)).alloc (.cells (cellsB after).toArray 23)).alloc (.cells #[.int .i64 u, .int .i64 v, .slice G k d] 59)) W → Blk W (w.heap.size + 1) 23 (cellsB leaf).toArray) := fun W hW => Blk.below' ((((blk_b1 w _ (cellsB leaf).toArray 23).alloc _).alloc _).alloc _) hW
  have BP : Hid (∀ W, Below (((((w.alloc (.cells (cellsB root).toArray 23)).alloc (.cells (cellsB leaf).toArray 23)).alloc (.cells #[.int .i64 a, .int .i64 b, .slice A m c] 52)).alloc (.cells (cellsB after).toArray 23)).alloc (.cells #[.int .i64 u, .int .i64 v, .slice G k d] 59)).heap.size (((((w.alloc (.cells (cellsB root).toArray 23)).alloc (.cells (cellsB leaf).toArray 23)).alloc (.cells #[.int .i64 a, .int .i64 b, .slice A m c] 52)).alloc (.cells (cellsB after).toArray 23)).alloc (.cells #[.int .i64 u, .int .i64 v, .slice G k d] 59)) W → Blk W (w.heap.size + 1 + 1) 52 #[.int .i64 a, .int .i64 b, .slice A m c]) := fun W hW => Blk.below' (((blk_a2 w _ _ #[.int .i64 a, .int .i64 b, .slice A m c] 52).alloc _).alloc _) hW
  have BA : Hid (∀ W, Below (((((w.alloc (.cells (cellsB root).toArray 23)).alloc (.cells (cellsB leaf).toArray 23)).alloc (.cells #[.int .i64 a, .int .i64 b, .slice A m c] 52)).alloc (.cells (cellsB after).toArray 23)).alloc (.cells #[.int .i64 u, .int .i64 v, .slice G k d] 59)).heap.size (((((w.alloc (.cells (cellsB root).toArray 23)).alloc (.cells (cellsB leaf).toArray 23)).alloc (.cells #[.int .i64 a, .int .i64 b, .slice A m c] 52)).alloc (.cells (cellsB after).toArray 23)).alloc (.cells #[.int .i64 u, .int .i64 v, .slice G k d] 59)) W → Blk W (w.heap.size + 1 + 1 + 1) 23 (cellsB after).toArray) := fun W hW => Blk.below' ((blk_e3 w _ _ _ (cellsB after).toArray 23).alloc _) hW
  have BG : Hid (∀ W, Below (((((w.alloc (.cells (cellsB root).toArray 23)).alloc (.cells (cellsB leaf).toArray 23)).alloc (.cells #[.int .i64 a, .int .i64 b, .slice A m c] 52)).alloc (.cells (cellsB after).toArray 23)).alloc (.cells #[.int .i64 u, .int .i64 v, .slice G k d] 59)).heap.size (((((w.alloc (.cells (cellsB root).toArray 23)).alloc (.cells (cellsB leaf).toArray 23)).alloc (.cells #[.int .i64 a, .int .i64 b, .slice A m c] 52)).alloc (.cells (cellsB after).toArray 23)).alloc (.cells #[.int .i64 u, .int .i64 v, .slice G k d] 59)) W → Blk W (w.heap.size + 1 + 1 + 1 + 1) 59 #[.int .i64 u, .int .i64 v, .slice G k d]) := fun W hW => Blk.below' (by
    have h := Blk.new ((((w.alloc (.cells (cellsB root).toArray 23)).alloc (.cells (cellsB leaf).toArray 23)).alloc (.cells #[.int .i64 a, .int .i64 b, .slice A m c] 52)).alloc (.cells (cellsB after).toArray 23)) 59 #[.int .i64 u, .int .i64 v, .slice G k d]
    rw [size_e4] at h
    exact h) hW
  have H1 : Hid (∀ W, Below w.heap.size w W → Calls Try.prog 26 #[.agg (cellsB root).toArray, .agg (cellsB leaf).toArray, .agg #[.int .i64 a, .int .i64 b, .slice A m c]] W fun e w' => e = .returned (.tuple #[.bool (verS root leaf a b P).1, .int .i64 (verS root leaf a b P).2]) ∧ Below W.heap.size W w') := fun W hW => Verify_any root leaf a b P A c W hm hr hl (hP.below hW)
  have H2 : Hid (∀ W, Below w.heap.size w W → Calls Try.prog 27 #[.agg (cellsB root).toArray, .agg (cellsB leaf).toArray, .agg #[.int .i64 a, .int .i64 b, .slice A m c]] W fun e w' => e = .returned (.tuple #[.bool (verS root leaf a b P).1, .int .i64 (verS root leaf a b P).2]) ∧ Below W.heap.size W w') := fun W hW => refVerify_any root leaf a b P A c W hm hr hl (hP.below hW)
  have H3 : Hid (∀ W, Below w.heap.size w W → Calls Try.prog 28 #[.agg (cellsB leaf).toArray, .agg #[.int .i64 a, .int .i64 b, .slice A m c]] W fun e w' => TxEnd (ptS leaf a b P).1 (ptS leaf a b P).2 e w' ∧ Below W.heap.size W w') := fun W hW => PathTexts_any leaf a b P A c W hm hl (hP.below hW)
  have H4 : Hid (∀ W, Below w.heap.size w W → Calls Try.prog 29 #[.agg (cellsB leaf).toArray, .agg #[.int .i64 a, .int .i64 b, .slice A m c]] W fun e w' => TxEnd (ptS leaf a b P).1 (ptS leaf a b P).2 e w' ∧ Below W.heap.size W w') := fun W hW => refPathTexts_any leaf a b P A c W hm hl (hP.below hW)
  have H5 : Hid (∀ W, Below w.heap.size w W → Calls Try.prog 30 #[.agg (cellsB root).toArray, .agg (cellsB after).toArray, .agg #[.int .i64 u, .int .i64 v, .slice G k d]] W fun e w' => e = .returned (.tuple #[.bool (vgS root after u v Q).1, .int .i64 (vgS root after u v Q).2]) ∧ Below W.heap.size W w') := fun W hW => VerifyGrowth_any root after u v Q G d W hk hr ha (hQ.below hW)
  have H6 : Hid (∀ W, Below w.heap.size w W → Calls Try.prog 31 #[.agg (cellsB root).toArray, .agg (cellsB after).toArray, .agg #[.int .i64 u, .int .i64 v, .slice G k d]] W fun e w' => e = .returned (.tuple #[.bool (vgS root after u v Q).1, .int .i64 (vgS root after u v Q).2]) ∧ Below W.heap.size W w') := fun W hW => refVerifyGrowth_any root after u v Q G d W hk hr ha (hQ.below hW)
  have H7 : Hid (∀ W, Below w.heap.size w W → Calls Try.prog 32 #[.agg (cellsB root).toArray, .agg #[.int .i64 u, .int .i64 v, .slice G k d]] W fun e w' => TxEnd (gtS root u v Q).1 (gtS root u v Q).2 e w' ∧ Below W.heap.size W w') := fun W hW => GrowthTexts_any root u v Q G d W hk hr (hQ.below hW)
  have H8 : Hid (∀ W, Below w.heap.size w W → Calls Try.prog 33 #[.agg (cellsB root).toArray, .agg #[.int .i64 u, .int .i64 v, .slice G k d]] W fun e w' => TxEnd (gtS root u v Q).1 (gtS root u v Q).2 e w' ∧ Below W.heap.size W w') := fun W hW => refGrowthTexts_any root u v Q G d W hk hr (hQ.below hW)
  generalize verS root leaf a b P = s1 at H1 H2
  generalize ptS leaf a b P = s2 at H3 H4
  generalize vgS root after u v Q = s3 at H5 H6
  generalize gtS root u v Q = s4 at H7 H8
  obtain ⟨v1, e1⟩ := s1
  obtain ⟨t2, e2⟩ := s2
  obtain ⟨v3, e3⟩ := s3
  obtain ⟨t4, e4⟩ := s4
  dsimp only at H1 H2 H3 H4 H5 H6 H7 H8
  unfold TxEnd at H3 H4 H7 H8
  clear hr hl hP ha hQ hm hk
  go_enter Try.func5, Try.ntmps5
  go_wp2_with (first
    | (refine wpList_load_row rfl 23 (.tmp 5) rfl w.heap.size rfl 23 (cellsB root).toArray (0, 0) _ (BR.out _ (by assumption)) under_key rfl (cellsB_size _ HR.out) ?_)
    | (refine wpList_load_row rfl 23 (.tmp 6) rfl (w.heap.size + 1) rfl 23 (cellsB leaf).toArray (0, 0) _ (BL.out _ (by assumption)) under_key rfl (cellsB_size _ HL.out) ?_)
    | (refine wpList_load_row rfl 23 (.tmp 8) rfl (w.heap.size + 1 + 1 + 1) rfl 23 (cellsB after).toArray (0, 0) _ (BA.out _ (by assumption)) under_key rfl (cellsB_size _ HA.out) ?_)
    | (refine wpList_load_row rfl 52 (.tmp 7) rfl (w.heap.size + 1 + 1) rfl 52 #[.int .i64 a, .int .i64 b, .slice A m c] (0, 0) _ (BP.out _ (by assumption)) Try.underlying52 rfl (by kernel_rfl) ?_)
    | (refine wpList_load_row rfl 59 (.tmp 9) rfl (w.heap.size + 1 + 1 + 1 + 1) rfl 59 #[.int .i64 u, .int .i64 v, .slice G k d] (0, 0) _ (BG.out _ (by assumption)) Try.underlying59 rfl (by kernel_rfl) ?_)
    | (go_at_call 26; refine (H1.out _ b0).mono ?_; rintro e w1 ⟨rfl, hb1⟩; have D1 := bel_on D0 hb1; clear hb1)
    | (go_at_call 27; refine (H2.out _ (bel_on b0 D1)).mono ?_; rintro e w2 ⟨rfl, hb2⟩; have D2 := bel_on D1 hb2; clear hb2)
    | (go_at_call 28; refine (H3.out _ (bel_on b0 D2)).mono ?_; rintro e w3 ⟨⟨X3, x3, r3, rfl, hm3, hr3⟩, hb3⟩; have D3 := bel_on D2 hb3; generalize hq3 : r3.length = q3; have HQ3 := Lib.hid hq3; have HM3 := Lib.hid hm3; have HR3 := Lib.hid hr3; clear hq3 hm3 hr3 hb3)
    | (go_at_call 29; refine (H4.out _ (bel_on b0 D3)).mono ?_; rintro e w4 ⟨⟨X4, x4, r4, rfl, hm4, hr4⟩, hb4⟩; have D4 := bel_on D3 hb4; have HR34 := Lib.hid (HR3.out.on hb4); generalize hq4 : r4.length = q4; have HQ4 := Lib.hid hq4; have HM4 := Lib.hid hm4; have HR4 := Lib.hid hr4; clear hq4 hm4 hr4 hb4)
    | (go_at_call 19; (with_reducible refine (sameTexts_any t2 X3 x3 r3 X4 x4 r4 _ HQ3.out HQ4.out HM3.out HM4.out HR34.out HR4.out).mono ?_); rintro e w5 ⟨rfl, hb5⟩; have D5 := bel_on D4 hb5; clear hb5)
    | (go_at_call 30; refine (H5.out _ (bel_on b0 D5)).mono ?_; rintro e w6 ⟨rfl, hb6⟩; have D6 := bel_on D5 hb6; clear hb6)
    | (go_at_call 31; refine (H6.out _ (bel_on b0 D6)).mono ?_; rintro e w7 ⟨rfl, hb7⟩; have D7 := bel_on D6 hb7; clear hb7)
    | (go_at_call 32; refine (H7.out _ (bel_on b0 D7)).mono ?_; rintro e w8 ⟨⟨X8, x8, r8, rfl, hm8, hr8⟩, hb8⟩; have D8 := bel_on D7 hb8; generalize hq8 : r8.length = q8; have HQ8 := Lib.hid hq8; have HM8 := Lib.hid hm8; have HR8 := Lib.hid hr8; clear hq8 hm8 hr8 hb8)
    | (go_at_call 33; refine (H8.out _ (bel_on b0 D8)).mono ?_; rintro e w9 ⟨⟨X9, x9, r9, rfl, hm9, hr9⟩, hb9⟩; have D9 := bel_on D8 hb9; have HR89 := Lib.hid (HR8.out.on hb9); generalize hq9 : r9.length = q9; have HQ9 := Lib.hid hq9; have HM9 := Lib.hid hm9; have HR9 := Lib.hid hr9; clear hq9 hm9 hr9 hb9)
    | (go_at_call 19; (with_reducible refine (sameTexts_any t4 X8 x8 r8 X9 x9 r9 _ HQ8.out HQ9.out HM8.out HM9.out HR89.out HR9.out).mono ?_); rintro e w10 ⟨rfl, hb10⟩; have D10 := bel_on D9 hb10; clear hb10))
  go_ret
  exact ⟨rfl, bel_on b0 D10⟩
end Go.Proofs.Ytinpiodfpnbllaa
