/-
  Lemmas and contracts, joined.
-/
import Derived.Test.YtenpkmgbaajeeaaGreatCc2
import Derived.Test.YtenpkmgbaajeeaaGreatCt2
import Derived.Test.YtenpkmgbaajeeaaGreatCp2
set_option linter.unusedSimpArgs false
set_option linter.unusedVariables false
set_option linter.unnecessarySimpa false
/- The bound of a limit: the program's search. -/
namespace Go.Proofs.YtenpkmgbaajeeaaGreat
open Go.RowKit Go.Maps
set_option linter.unusedVariables false
set_option linter.unusedSimpArgs false

def sbnd (b : Int) (l : List Int) (y : List UInt8) (n num den : Nat) : Int := bndN (gA b l y) (gB b l y) (cA b l) (cB l) n num den
def slim (b : Int) (l : List Int) (y : List UInt8) (n num den : Nat) (z : Int) : Bool := decide (srch b l y n z * den ≤ num * sall b l n)
theorem slim_inLim (b : Int) (l : List Int) (y : List UInt8) (n num den : Nat) (z : Int) : slim b l y n num den z = inLim (gA b l y) (gB b l y) (cA b l) (cB l) n num den z := rfl
/-- Where no score lies below a number all words reach it. -/
theorem reach_full {g0 g1 : Nat → Int} {c0 c1 : Nat → Nat} {n : Nat} {z : Int} (hz : ∀ s, s < z → countS g0 g1 c0 c1 n s = 0) : reachS g0 g1 c0 c1 n z = allS c0 c1 n := by
  suffices h : ∀ d : Nat, reachS g0 g1 c0 c1 n z = reachS g0 g1 c0 c1 n (z - (d : Int)) by
    rw [h ((z - lowT g0 g1 n).toNat), reach_low]
    omega
  intro d
  induction d with
  | zero => simp
  | succ d ih =>
    have := reach_step g0 g1 c0 c1 n (z - ((d + 1 : Nat) : Int))
    rw [hz _ (by omega), show z - ((d + 1 : Nat) : Int) + 1 = z - (d : Int) from by omega] at this
    omega

set_option maxHeartbeats 8000000 in
set_option maxRecDepth 1000000 in
theorem bound_any (b : Int) (l : List Int) (y : List UInt8) (n bm lm m : Nat) (M : Option Addr) (X : Option Addr) (cx : Nat) (x : List Nat) (Z : Option Addr) (cz : Nat) (z : List Nat) (w : World) {lx lz : Nat} (hlm : (digs (sall b l n)).length = lm) (hlx : x.length = lx) (hlz : z.length = lz)
    (hm : NM w bm 5000 (scnt b l y n) (-2048) 2048) (hA : NR w M m (digs (sall b l n))) (hx : NR w X cx x) (hz : NR w Z cz z) (hl : limB x z = true) (hlow : -2048 ≤ slow b l y n) (hhigh : shigh b l y n ≤ 2048) (hall : sall b l n ≤ 32 ^ 64) (hpos : 0 < sall b l n) :
    Calls Tryz.prog 85 #[.agg #[.map (some bm), .slice M lm m], .agg #[.slice X lx cx, .slice Z lz cz]] w fun e w' => e = .returned (.int .i64 (sbnd b l y n (val x) (val z))) ∧ Below w.heap.size w w' := by
  have mixed : Tryz.prog.follows Departure.mixedOrders = true := by kernel_rfl
  obtain ⟨f, hmf, hv⟩ := hm
  obtain ⟨v1, v2, l1, l2, hlt⟩ := limB_sm hl
  have HRE : Hid (∀ q W, Below w.heap.size w W → Calls Tryz.prog 78 #[.agg #[.map (some bm), .slice M lm m], .int .i64 q] W fun e w' => (∃ R r, e = .returned (.slice R (digs (srch b l y n q)).length r) ∧ NR w' R r (digs (srch b l y n q))) ∧ Below W.heap.size W w') := fun q W hW => reach_any b l y n bm lm m M q W ⟨f, hmf.below hW, fun s hs => ⟨(hv s hs).1.below hW, (hv s hs).2⟩⟩ hlow hhigh hall
  have HSR : Hid (∀ q, (digs (srch b l y n q)).length ≤ 12) := fun q => sm12 (Nat.le_trans (reach_all (gA b l y) (gB b l y) (cA b l) (cB l) n q) hall)
  have HWI : Hid (∀ q W R r, Below w.heap.size w W → NR W R r (digs (srch b l y n q)) → Calls Tryz.prog 132 #[.slice R (digs (srch b l y n q)).length r, .slice M lm m, .agg #[.slice X lx cx, .slice Z lz cz]] W fun e w' => e = .returned (.bool (slim b l y n (val x) (val z) q)) ∧ Below W.heap.size W w') := fun q W R r hW hR =>
    within_any (srch b l y n q) (sall b l n) R r M m X cx x Z cz z W rfl hlm hlx hlz hR (hA.below hW) (hx.below hW) (hz.below hW) hl (HSR.out q) (by rw [← hlm]; exact sm12 hall)
  have HLO : Hid (∀ lo, (∀ s, (Lit.int .i64 s).wf = true → f s ≠ none → lo ≤ s) → -2048 ≤ lo → slim b l y n (val x) (val z) lo = false) := fun lo hlo h1 => by
    rw [slim_inLim]
    simp only [inLim, decide_eq_false_iff_not]
    have : reachS (gA b l y) (gB b l y) (cA b l) (cB l) n lo = allS (cA b l) (cB l) n := reach_full fun s hs => by
      by_cases h2 : s < -2048
      · exact count_low _ _ _ _ _ (by unfold slow at hlow; omega)
      · by_cases h3 : 2048 < s
        · exact count_high _ _ _ _ _ (by unfold shigh at hhigh; omega)
        · have hwf : (Lit.int .i64 s).wf = true := WalkArith.wf_i64 (by omega)
          rcases (hv s hwf).1 with ⟨h4, h5⟩ | ⟨A, c, h4, h5⟩
          · exact h5
          · have := hlo s hwf (by rw [h4]; simp)
            omega
    rw [this]
    have h7 := Nat.mul_lt_mul_of_pos_left hlt hpos
    rw [Nat.mul_comm (sall b l n) (val x)] at h7
    unfold sall at h7
    omega
  have HHI : Hid (∀ hi, (∀ s, (Lit.int .i64 s).wf = true → f s ≠ none → s < hi) → slim b l y n (val x) (val z) hi = true) := fun hi hhi => by
    rw [slim_inLim]
    simp only [inLim, decide_eq_true_eq]
    have : reachS (gA b l y) (gB b l y) (cA b l) (cB l) n hi = 0 := reach_nil _ _ _ _ fun s hs => by
      by_cases h2 : s < -2048
      · exact count_low _ _ _ _ _ (by unfold slow at hlow; omega)
      · by_cases h3 : 2048 < s
        · exact count_high _ _ _ _ _ (by unfold shigh at hhigh; omega)
        · have hwf : (Lit.int .i64 s).wf = true := WalkArith.wf_i64 (by omega)
          rcases (hv s hwf).1 with ⟨h4, h5⟩ | ⟨A, c, h4, h5⟩
          · exact h5
          · have := hhi s hwf (by rw [h4]; simp)
            omega
    rw [this]; omega
  have HUN : Hid (∀ q, slim b l y n (val x) (val z) q = true → slim b l y n (val x) (val z) (q - 1) = false → q = sbnd b l y n (val x) (val z)) := fun q h1 h2 => bnd_unique _ _ _ _ hlt hpos h1 h2
  have HIN : Hid (∀ s, (Lit.int .i64 s).wf = true → f s ≠ none → -2048 ≤ s ∧ s ≤ 2048) := fun s hs hne => (hv s hs).2 hne
  have HMF := Lib.hid hmf
  obtain ⟨W0, hW0⟩ : ∃ W : World, W = (w.alloc (.cells #[.map (some bm), .slice M lm m] 122)).alloc (.cells #[.slice X lx cx, .slice Z lz cz] 27) := ⟨_, rfl⟩
  have b0 : Hid (Below w.heap.size w W0) := by unfold Hid; rw [hW0]; exact alloc2_bel _ _ _
  have x0 : Hid (Blk W0 w.heap.size 122 #[.map (some bm), .slice M lm m]) := by unfold Hid; rw [hW0]; exact blk_b0 w _ _ _
  have y0 : Hid (Blk W0 (w.heap.size + 1) 27 #[.slice X lx cx, .slice Z lz cz]) := by unfold Hid; rw [hW0]; exact blk_b1 w _ _ _
  have c0 : W0.cell? ⟨w.heap.size, 0, none⟩ = some (.map (some bm)) := x0.out.cell 0
  have HW0 := Lib.hid hW0
  obtain ⟨P, hP⟩ : ∃ P : Int → Bool, slim b l y n (val x) (val z) = P := ⟨_, rfl⟩
  rw [hP] at HWI HLO HHI HUN
  obtain ⟨r0, hr0⟩ : ∃ r, sbnd b l y n (val x) (val z) = r := ⟨_, rfl⟩
  rw [hr0] at HUN ⊢
  clear hmf hv v1 v2 l1 l2 hlt hlm hlx hlz hA hx hz hl hlow hhigh hall hpos hW0 hP hr0
  have HSX : Hid (∀ W, Below W0.heap.size W0 W → W.rangeAt w.heap.size 0 [.map (some bm), .slice M lm m] ∧ W.rangeAt (w.heap.size + 1) 0 [.slice X lx cx, .slice Z lz cz] ∧ W.cell? ⟨w.heap.size, 1, none⟩ = some (.slice M lm m)) := fun W hW => ⟨(x0.out.below' hW).range, (y0.out.below' hW).range, (x0.out.below' hW).cell 1⟩
  go_enter Tryz.func85, Tryz.ntmps85
  go_wp2_with (first
    | (rw [← HW0.out])
    | (at_range; refine wpList_range_mf _ rfl _ 120 rfl 3 25 intKey Tryz.underlying120 bm 5000 f rfl (HMF.out.below b0.out) ?_; intro w6 cnt6 hr6 hg6 hs6; have R6 := Lib.hid hr6; have D6 : Hid (Below W0.heap.size W0 w6) := (Below.refl _ _).grown hg6 (Nat.le_refl _) (fun j hj => by cases hj); clear hr6 hg6 hs6))
  try go_frame
  clear c0
  go_loopw [5, 6] (fun vl vh wr => ∃ (left : Int → Bool) (cnt : Nat) (lo hi : Int), vl = .int .i64 lo ∧ vh = .int .i64 hi ∧ -2048 ≤ lo ∧ lo ≤ 0 ∧ 0 ≤ hi ∧ hi ≤ 2048 ∧ Hid (∀ s, (Lit.int .i64 s).wf = true → f s ≠ none → left s = false → lo ≤ s ∧ s ≤ hi) ∧ Hid (MFR Tryz.prog 3 wr bm W0.heap.size 5000 f left cnt) ∧ Below W0.heap.size W0 wr) (fun _ _ w' => w'.rangeLeft bm W0.heap.size)
  case atStart => exact ⟨_, cnt6, 0, 0, rfl, rfl, by omega, by omega, by omega, by omega, (fun s _ hne hs => absurd (Option.isSome_iff_ne_none.2 hne) (by rw [hs]; simp)), R6.out, D6.out⟩
  case round =>
    obtain ⟨left, cnt, lo, hi, rfl, rfl, g1, g2, g3, g4, HL, HR, hbel⟩ := hrel
    go_wp2_with (first
      | (at_next; refine wpList_next_mf _ rfl _ rfl 3 intKey Tryz.underlying3 bm W0.heap.size 5000 _ _ _ rfl HR.out ?_ ?_))
    · intro hl0
      have L1 := Lib.hid (HLO.out lo (fun s hs hne => (HL.out s hs hne (hl0 s hs)).1) g1)
      have H1 := Lib.hid (HHI.out (hi + 1) (fun s hs hne => by have := (HL.out s hs hne (hl0 s hs)).2; omega))
      obtain ⟨hi', hhi'⟩ : ∃ q, hi + 1 = q := ⟨_, rfl⟩
      rw [hhi'] at H1
      have e1 : IntKind.i64.wrap (hi + 1) = hi' := by rw [IntKind.wrap_i64]; omega
      have g3' : 1 ≤ hi' := by omega
      have g4' : hi' ≤ 2049 := by omega
      clear hl0 HL HLO HHI
      go_wp2_with fail
      clear hhi' e1 g3 g4 HR
      go_loopw [5, 6] (fun vl vh wr => ∃ lo hi : Int, vl = .int .i64 lo ∧ vh = .int .i64 hi ∧ -2048 ≤ lo ∧ lo < hi ∧ hi ≤ 2049 ∧ Hid (P lo = false) ∧ Hid (P hi = true) ∧ Below W0.heap.size W0 wr) (fun vl vh _ => (intOf vh - intOf vl).toNat)
      case atStart => exact ⟨lo, hi', rfl, rfl, by omega, by omega, by omega, L1.out, H1.out, hbel⟩
      case round =>
        clear L1 H1 g1 g2 g3' g4'
        obtain ⟨lo, hi, rfl, rfl, g1, g2, g3, HL, HH, hbel2⟩ := hrel
        by_cases hgo : 1 < hi - lo
        · obtain ⟨q, hq⟩ : ∃ q, (lo + hi) / 2 = q := ⟨_, rfl⟩
          have q1 : lo < q := by omega
          have q2 : q < hi := by omega
          go_wp2_with fail
          refine wp_region_noPanic ?_
          obtain ⟨v0, hv0⟩ : ∃ W, W = wr.drew := ⟨_, rfl⟩
          have k0 : Below W0.heap.size W0 v0 := by rw [hv0]; exact hbel2.drew
          refine wp_region_held_drew (S := fun W => W.rangeAt w.heap.size 0 [.map (some bm), .slice M lm m] ∧ W.rangeAt (w.heap.size + 1) 0 [.slice X lx cx, .slice Z lz cz] ∧ W.cell? ⟨w.heap.size, 1, none⟩ = some (.slice M lm m)) (by kernel_rfl) (by rw [← hv0]; exact HSX.out _ k0) (fun hS0 => ?_)
          rw [← hv0] at hS0 ⊢
          clear hv0
          refine hd_load 0 w.heap.size 0 [.map (some bm), .slice M lm m] 122 (.tmp 2) rfl rfl rfl (by kernel_rfl) (by kernel_rfl) (by kernel_rfl) (fun _ _ _ h => h) rfl (fun w h => h.1) Tryz.underlying122 rfl rfl hS0 ?_
          refine hd_take 1 (.int .i64 q) rfl rfl (by kernel_rfl) (by kernel_rfl) (by kernel_rfl) (fun _ _ _ h => h) (fun w hw => by go_simp) hS0 ?_
          refine hd_take 3 (.pointer (some ⟨w.heap.size, 1, none⟩)) rfl rfl (by kernel_rfl) (by kernel_rfl) (by kernel_rfl) (fun _ _ _ h => h) (fun w hw => by go_simp) hS0 ?_
          refine hd_load 5 (w.heap.size + 1) 0 [.slice X lx cx, .slice Z lz cz] 27 (.tmp 3) rfl rfl rfl (by kernel_rfl) (by kernel_rfl) (by kernel_rfl) (fun _ _ _ h => h) rfl (fun w h => h.2.1) Tryz.underlying27 rfl rfl hS0 ?_
          simp only [List.getElem_toArray, List.getElem_cons_succ, List.getElem_cons_zero, Act.put, List.setIfInBounds_toArray, List.set_cons_zero, List.set_cons_succ]
          refine hd_take 4 (.slice M lm m) rfl rfl (by kernel_rfl) (by kernel_rfl) (by kernel_rfl) (fun _ _ _ h => h) (fun w hw => by have hx := hw.2.2; simp [go_sem, hx]) hS0 ?_
          simp only [List.getElem_toArray, List.getElem_cons_succ, List.getElem_cons_zero, Act.put, List.setIfInBounds_toArray, List.set_cons_zero, List.set_cons_succ]
          refine hd_calls 2 78 #[.agg #[.map (some bm), .slice M lm m], .int .i64 q] rfl rfl (by kernel_rfl) (by go_simp) ((HRE.out q _ (bel_on b0.out k0)).mono ?_)
          rintro e v1 ⟨⟨R, r, rfl, hR⟩, hb1⟩
          have k1 := bel_on k0 hb1
          have hS1 := HSX.out _ k1
          refine ⟨_, rfl, hS1, ?_⟩
          simp only [List.getElem_toArray, List.getElem_cons_succ, List.getElem_cons_zero, Act.put, List.setIfInBounds_toArray, List.set_cons_zero, List.set_cons_succ]
          refine hd_calls 6 132 #[.slice R (digs (srch b l y n q)).length r, .slice M lm m, .agg #[.slice X lx cx, .slice Z lz cz]] rfl rfl (by kernel_rfl) (by go_simp) ((HWI.out q _ _ _ (bel_on b0.out k1) hR).mono ?_)
          rintro e v2 ⟨rfl, hb2⟩
          have k2 := bel_on k1 hb2
          have hS2 := HSX.out _ k2
          refine ⟨_, rfl, hS2, ?_⟩
          simp only [List.getElem_toArray, List.getElem_cons_succ, List.getElem_cons_zero, Act.put, List.setIfInBounds_toArray, List.set_cons_zero, List.set_cons_succ]
          refine wpAnyH_done (by kernel_rfl) (NoPanic.normal ?_) _
          have K2 := Lib.hid k2
          clear k0 k1 k2 hS0 hS1 hS2 hb1 hb2 hR
          cases hp : P q
          · have HP := Lib.hid hp
            clear hq hp
            go_wp2_with fail
            go_roundw
            case rel => exact ⟨q, hi, rfl, rfl, by omega, by omega, by omega, HP.out, HH.out, K2.out⟩
            case measure => simp [intOf]; omega
          · have HP := Lib.hid hp
            clear hq hp
            go_wp2_with fail
            go_roundw
            case rel => exact ⟨lo, q, rfl, rfl, by omega, by omega, by omega, HL.out, HP.out, K2.out⟩
            case measure => simp [intOf]; omega
        · have hx : P (hi - 1) = false := by rw [show hi - 1 = lo from by omega]; exact HL.out
          have HR0 := Lib.hid (HUN.out hi HH.out hx)
          have hgo2 : ¬ (1 < hi - lo) := hgo
          clear hx
          go_wp2_with fail
          go_ret
          exact ⟨by rw [HR0.out]; rfl, bel_on b0.out hbel2⟩
    · intro sx vx w7 cnt7 hws hls hfs hr7 hlt7 hg7 hs7 hen
      obtain ⟨k1, k2⟩ := HIN.out sx hws (by rw [hfs]; simp)
      have R7 := Lib.hid hr7
      have HLT := Lib.hid hlt7
      have D7 : Hid (Below W0.heap.size W0 w7) := hbel.grown hg7 hbel.size (fun j hj => by cases hj; exact Nat.le_refl _)
      have HL2 : Hid (∀ s, (Lit.int .i64 s).wf = true → f s ≠ none → (left s && !(s == sx)) = false → min lo sx ≤ s ∧ s ≤ max hi sx) := fun s hs hne hf => by
        cases hl1 : left s
        · have := HL.out s hs hne hl1; omega
        · rw [hl1] at hf
          have : s = sx := by simpa using hf
          omega
      clear hws hls hfs hr7 hlt7 hg7 hs7
      go_wp2_with fail
      go_roundw
      case rel => exact ⟨_, cnt7, min lo sx, max hi sx, rfl, rfl, by omega, by omega, by omega, by omega, HL2.out, R7.out, D7.out⟩
      case measure => rw [R7.out.left_eq, HR.out.left_eq]; exact HLT.out
end Go.Proofs.YtenpkmgbaajeeaaGreat

/- The chance of a score and the bound of a limit, of the program. -/
namespace Go.Proofs.YtenpkmgbaajeeaaGreat
open Go.RowKit Go.Maps
set_option linter.unusedVariables false
set_option linter.unusedSimpArgs false

def chanceS (u b : Int) (l : List Int) (y : List UInt8) (z : Int) : (List Nat × List Nat) × Int := if ckSC u b l y = 0 then (lowS (srch b l y l.length z) (sall b l l.length), 0) else (([], []), ckSC u b l y)
def boundS (u b : Int) (l : List Int) (y : List UInt8) (p q : List Nat) : Int × Int := if ckSC u b l y = 0 then (if limB p q = true then (sbnd b l y l.length (val p) (val q), 0) else (0, 2)) else (0, ckSC u b l y)
theorem chances_no (u b : Int) (A : Option Addr) (c : Nat) (l : List Int) (k : List UInt8) (Y : Option Addr) (d : Nat) (y : List UInt8) (w : World) {n ny : Nat} (hn : l.length = n) (hyl : y.length = ny) (h : IR w A c l) (hy : BR w Y d y) (hk : k.length = 16) (hne : ckSC u b l y ≠ 0) :
    Calls Tryz.prog 77 #[.agg (scC u b A n c k).toArray, .slice Y ny d] w fun e w' => e = .returned (.tuple #[.agg #[.map none, .slice none 0 0], .int .i64 (ckSC u b l y)]) ∧ Below w.heap.size w w' := by
  cases hv : scoresB u b l
  · rw [ckSC_bad hv]; exact chances_bad u b A c l k Y d y w hn hyl h hy hk hv
  · cases hc : copyB y l.length
    · rw [ckSC_copy hv hc]; exact chances_copy u b A c l k Y d y w hn hyl h hy hk hv (by rw [← hn]; exact hc)
    · exact absurd (ckSC_ok hv hc) hne
theorem chances_yes (u b : Int) (A : Option Addr) (c : Nat) (l : List Int) (k : List UInt8) (Y : Option Addr) (d : Nat) (y : List UInt8) (w : World) {n ny : Nat} (hn : l.length = n) (hyl : y.length = ny) (h : IR w A c l) (hy : BR w Y d y) (hk : k.length = 16) (he : ckSC u b l y = 0) :
    Calls Tryz.prog 77 #[.agg (scC u b A n c k).toArray, .slice Y ny d] w fun e w' => (∃ bm M m, e = .returned (.tuple #[.agg #[.map (some bm), .slice M (digs (sall b l l.length)).length m], .int .i64 0]) ∧ NM w' bm 5000 (scnt b l y l.length) (-2048) 2048 ∧ NR w' M m (digs (sall b l l.length))) ∧ Below w.heap.size w w' := by
  obtain ⟨h1, h2⟩ := ckSC_zero he
  refine (chances_good u b A c l k Y d y w hn hyl h hy hk h1 (by rw [← hn]; exact h2)).mono fun e w' hq => ?_
  obtain ⟨⟨v, e1, bm, M, m, e2, e3, e4⟩, e5⟩ := hq
  exact ⟨⟨bm, M, m, by rw [e1, e2], e3, e4⟩, e5⟩
theorem Spread.below_NM {w w' : World} {bm n : Nat} {h : Int → Nat} {lo hi : Int} (hm : NM w bm n h lo hi) (hb : Below w.heap.size w w') : NM w' bm n h lo hi := hm.below hb
set_option maxHeartbeats 2000000 in
set_option maxRecDepth 100000 in
theorem Chance_no (u b : Int) (A : Option Addr) (c : Nat) (l : List Int) (k : List UInt8) (Y : Option Addr) (d : Nat) (y : List UInt8) (z : Int) (w : World) {n ny : Nat} (hn : l.length = n) (hyl : y.length = ny) (h : IR w A c l) (hy : BR w Y d y) (hk : k.length = 16) (hne : ckSC u b l y ≠ 0) :
    Calls Tryz.prog 28 #[.agg (scC u b A n c k).toArray, .slice Y ny d, .int .i64 z] w fun e w' => Frac2 w w' e (chanceS u b l y z) := by
  have HS : Hid (chanceS u b l y z = (([], []), ckSC u b l y)) := by unfold Hid chanceS; rw [if_neg hne]
  have HIN := Lib.hid (scC_info u b A n c k hk)
  have HCH : Hid (∀ W, Below w.heap.size w W → Calls Tryz.prog 77 #[.agg (scC u b A n c k).toArray, .slice Y ny d] W fun e w' => e = .returned (.tuple #[.agg #[.map none, .slice none 0 0], .int .i64 (ckSC u b l y)]) ∧ Below W.heap.size W w') := fun W hW => chances_no u b A c l k Y d y W hn hyl (h.below hW) (hy.below hW) hk hne
  obtain ⟨er, her⟩ : ∃ er, ckSC u b l y = er := ⟨_, rfl⟩
  have t1 : (er == 0) = false := by rw [beq_eq_false_iff_ne, ← her]; exact hne
  have t2 : ¬ er = 0 := by rw [← her]; exact hne
  obtain ⟨W0, hW0⟩ : ∃ W : World, W = (w.alloc (.cells (scC u b A n c k).toArray 46)).alloc (.cells #[.slice none 0 0, .slice none 0 0] 27) := ⟨_, rfl⟩
  have b0 : Hid (Below w.heap.size w W0) := by unfold Hid; rw [hW0]; exact alloc2_bel _ _ _
  have x0 : Hid (Blk W0 w.heap.size 46 (scC u b A n c k).toArray) := by unfold Hid; rw [hW0]; exact blk_b0 w _ _ _
  have y0 : Hid (Blk W0 (w.heap.size + 1) 27 #[.slice none 0 0, .slice none 0 0]) := by unfold Hid; rw [hW0]; exact blk_b1 w _ _ _
  have hz0 : Hid (W0.heap.size = w.heap.size + 2) := by unfold Hid; rw [hW0]; simp
  have HW0 := Lib.hid hW0
  rw [her] at HCH HS
  clear hn hyl h hy hk hW0 hne her
  go_enter Tryz.func28, Tryz.ntmps28
  go_wp2_with (first
    | (rw [← HW0.out])
    | (refine wpList_load_row rfl 46 (.tmp 3) rfl w.heap.size rfl 46 (scC u b A n c k).toArray (0, 0) _ x0.out Tryz.underlying46 rfl HIN.out ?_)
    | (go_at_call 77; (with_reducible refine (HCH.out _ b0.out).mono ?_); rintro e w1 ⟨rfl, hb1⟩; have D2 : Hid (Below W0.heap.size W0 (w1.alloc (.cells #[.map none, .slice none 0 0] 122))) := bel_on hb1 (alloc_bel _ _); have Y2 := Lib.hid (y0.out.below' D2.out); have k0 := Y2.out.cell 0; have k1 := Y2.out.cell 1; have f0 := Y2.out.frozen 0; have f1 := Y2.out.frozen 1; clear hb1))
  have RB := (Y2.out.set_ 0 (.slice none 0 0)).set_ 1 (.slice none 0 0)
  have z0 := RB.cell 0
  have z1 := RB.cell 1
  have DF := ((bel_on b0.out D2.out).setCell (p := ⟨w.heap.size + 1, 0, none⟩) (by simp) (.slice none 0 0)).setCell (p := ⟨w.heap.size + 1, 1, none⟩) (by simp) (.slice none 0 0)
  refine bodyPost_ret (v := .tuple #[.agg #[.slice none 0 0, .slice none 0 0], .int .i64 er]) (by simp [results, Tryz.f28, go_sem, z0, z1, k0, k1, f0, f1]) rfl (Frac2.mk' HS.out (FracNew.zero DF))
set_option maxHeartbeats 4000000 in
set_option maxRecDepth 100000 in
theorem Chance_yes (u b : Int) (A : Option Addr) (c : Nat) (l : List Int) (k : List UInt8) (Y : Option Addr) (d : Nat) (y : List UInt8) (z : Int) (w : World) {n ny : Nat} (hn : l.length = n) (hyl : y.length = ny) (h : IR w A c l) (hy : BR w Y d y) (hk : k.length = 16) (he : ckSC u b l y = 0) :
    Calls Tryz.prog 28 #[.agg (scC u b A n c k).toArray, .slice Y ny d, .int .i64 z] w fun e w' => Frac2 w w' e (chanceS u b l y z) := by
  have mixed : Tryz.prog.follows Departure.mixedOrders = true := by kernel_rfl
  have HS : Hid (chanceS u b l y z = (lowS (srch b l y l.length z) (sall b l l.length), 0)) := by unfold Hid chanceS; rw [if_pos he]
  have HIN := Lib.hid (scC_info u b A n c k hk)
  obtain ⟨hv, hc⟩ := ckSC_zero he
  obtain ⟨r1, r2, r3, r4⟩ := score_range (y := y) hv
  obtain ⟨lm, hlm⟩ : ∃ lm, (digs (sall b l l.length)).length = lm := ⟨_, rfl⟩
  have HCH : Hid (∀ W, Below w.heap.size w W → Calls Tryz.prog 77 #[.agg (scC u b A n c k).toArray, .slice Y ny d] W fun e w' => (∃ bm M m, e = .returned (.tuple #[.agg #[.map (some bm), .slice M lm m], .int .i64 0]) ∧ NM w' bm 5000 (scnt b l y l.length) (-2048) 2048 ∧ NR w' M m (digs (sall b l l.length))) ∧ Below W.heap.size W w') := fun W hW => by rw [← hlm]; exact chances_yes u b A c l k Y d y W hn hyl (h.below hW) (hy.below hW) hk he
  obtain ⟨W0, hW0⟩ : ∃ W : World, W = (w.alloc (.cells (scC u b A n c k).toArray 46)).alloc (.cells #[.slice none 0 0, .slice none 0 0] 27) := ⟨_, rfl⟩
  have b0 : Hid (Below w.heap.size w W0) := by unfold Hid; rw [hW0]; exact alloc2_bel _ _ _
  have x0 : Hid (Blk W0 w.heap.size 46 (scC u b A n c k).toArray) := by unfold Hid; rw [hW0]; exact blk_b0 w _ _ _
  have y0 : Hid (Blk W0 (w.heap.size + 1) 27 #[.slice none 0 0, .slice none 0 0]) := by unfold Hid; rw [hW0]; exact blk_b1 w _ _ _
  have hz0 : Hid (W0.heap.size = w.heap.size + 2) := by unfold Hid; rw [hW0]; simp
  have HW0 := Lib.hid hW0
  obtain ⟨lr, hlr⟩ : ∃ lr, (digs (srch b l y l.length z)).length = lr := ⟨_, rfl⟩
  have HRE0 : Hid (∀ bm M m W, NM W bm 5000 (scnt b l y l.length) (-2048) 2048 → Calls Tryz.prog 78 #[.agg #[.map (some bm), .slice M lm m], .int .i64 z] W fun e w' => (∃ R r, e = .returned (.slice R lr r) ∧ NR w' R r (digs (srch b l y l.length z))) ∧ Below W.heap.size W w') := fun bm M m W hm => by rw [← hlr]; exact reach_any b l y l.length bm lm m M z W hm r1 r2 r3
  have hsm1 : Sm (srch b l y l.length z) := sm_allS (Nat.le_trans (reach_all (gA b l y) (gB b l y) (cA b l) (cB l) l.length z) r3)
  have HRT0 : Hid (∀ M m R r W, NR W R r (digs (srch b l y l.length z)) → NR W M m (digs (sall b l l.length)) → Calls Tryz.prog 52 #[.slice R lr r, .slice M lm m] W fun e w' => ∃ v, e = .returned (.tuple #[v, .int .i64 0]) ∧ FracNew W w' v (lowS (srch b l y l.length z) (sall b l l.length))) := fun M m R r W g1 g2 => ratioD_any hsm1 (sm_allS r3) (by omega) hlr hlm g1 g2
  clear hn hyl h hy hk hW0 he hv hc r1 r2 r3 r4 hlm hlr hsm1
  go_enter Tryz.func28, Tryz.ntmps28
  go_wp2_with (first
    | (rw [← HW0.out])
    | (refine wpList_load_row rfl 46 (.tmp 3) rfl w.heap.size rfl 46 (scC u b A n c k).toArray (0, 0) _ x0.out Tryz.underlying46 rfl HIN.out ?_)
    | (go_at_call 77; (with_reducible refine (HCH.out _ b0.out).mono ?_); rintro e w1 ⟨⟨bm, M, m, rfl, hm1, hn1⟩, hb1⟩; obtain ⟨w2, hw2⟩ : ∃ W, W = w1.alloc (.cells #[.map (some bm), .slice M lm m] 122) := ⟨_, rfl⟩; have E2 : Hid (Below w1.heap.size w1 w2) := (by unfold Hid; rw [hw2]; exact alloc_bel _ _); have D2 : Hid (Below W0.heap.size W0 w2) := bel_on hb1 E2.out; have Y2 := Lib.hid (y0.out.below' D2.out); have S2 : Hid (Blk w2 w1.heap.size 122 #[.map (some bm), .slice M lm m]) := (by unfold Hid; rw [hw2]; exact Blk.new _ _ _); have M2 := Lib.hid (hm1.below E2.out); have N2 := Lib.hid (hn1.below E2.out); have HW2 := Lib.hid hw2; have HZ1 : Hid (W0.heap.size ≤ w1.heap.size) := hb1.size; clear hb1 hw2 hm1 hn1)
    | (rw [← HW2.out]))
  have HRE : Hid (∀ W, Below W0.heap.size W0 W → Below w2.heap.size w2 W → Calls Tryz.prog 78 #[.agg #[.map (some bm), .slice M lm m], .int .i64 z] W fun e w' => (∃ R r, e = .returned (.slice R lr r) ∧ NR w' R r (digs (srch b l y l.length z))) ∧ Below W.heap.size W w') := fun W _ hW => HRE0.out bm M m W (M2.out.below hW)
  have HRT : Hid (∀ R r W, NR W R r (digs (srch b l y l.length z)) → NR W M m (digs (sall b l l.length)) → Calls Tryz.prog 52 #[.slice R lr r, .slice M lm m] W fun e w' => ∃ v, e = .returned (.tuple #[v, .int .i64 0]) ∧ FracNew W w' v (lowS (srch b l y l.length z) (sall b l l.length))) := HRT0.out M m
  have HLT : Hid (w.heap.size + 1 < w1.heap.size ∧ w1.heap.size < w2.heap.size) := by
    have h1 := hz0.out
    have h2 := S2.out.lt
    have h3 := D2.out.size
    have h4 := HW2.out
    have h5 : w2.heap.size = w1.heap.size + 1 := by rw [h4]; simp
    exact ⟨by have := HZ1.out; omega, by omega⟩
  have HSX : Hid (∀ W, Below w2.heap.size w2 W → W.rangeAt w1.heap.size 0 [.map (some bm), .slice M lm m] ∧ W.cell? ⟨w1.heap.size, 1, none⟩ = some (.slice M lm m)) := fun W hW => ⟨(S2.out.below' hW).range, (S2.out.below' hW).cell 1⟩
  have HSY : Hid (∀ W, Below w2.heap.size w2 W → ∀ a b', ((W.setCell ⟨w.heap.size + 1, 0, none⟩ a).setCell ⟨w.heap.size + 1, 1, none⟩ b').rangeAt w1.heap.size 0 [.map (some bm), .slice M lm m] ∧ ((W.setCell ⟨w.heap.size + 1, 0, none⟩ a).setCell ⟨w.heap.size + 1, 1, none⟩ b').cell? ⟨w1.heap.size, 1, none⟩ = some (.slice M lm m)) := fun W hW a b' => by
    have h1 := ((S2.out.below' hW).far (p := ⟨w.heap.size + 1, 0, none⟩) (by have := HLT.out; simp; omega) a).far (p := ⟨w.heap.size + 1, 1, none⟩) (by have := HLT.out; simp; omega) b'
    exact ⟨h1.range, h1.cell 1⟩
  refine wp_region_noPanic ?_
  obtain ⟨v0, hv0⟩ : ∃ W, W = w2.drew := ⟨_, rfl⟩
  have k0 : Below w2.heap.size w2 v0 := by rw [hv0]; exact (Below.refl _ _).drew
  refine wp_region_held_drew (S := fun W => W.rangeAt w1.heap.size 0 [.map (some bm), .slice M lm m] ∧ W.cell? ⟨w1.heap.size, 1, none⟩ = some (.slice M lm m)) (by kernel_rfl) (by rw [← hv0]; exact HSX.out _ k0) (fun hS0 => ?_)
  rw [← hv0] at hS0 ⊢
  clear hv0
  refine hd_load 0 w1.heap.size 0 [.map (some bm), .slice M lm m] 122 (.tmp 8) rfl rfl rfl (by kernel_rfl) (by kernel_rfl) (by kernel_rfl) (fun _ _ _ h => h) rfl (fun w h => h.1) Tryz.underlying122 rfl rfl hS0 ?_
  refine hd_take 1 (.int .i64 z) rfl rfl (by kernel_rfl) (by kernel_rfl) (by kernel_rfl) (fun _ _ _ h => h) (fun w hw => by go_simp) hS0 ?_
  refine hd_take 3 (.pointer (some ⟨w1.heap.size, 1, none⟩)) rfl rfl (by kernel_rfl) (by kernel_rfl) (by kernel_rfl) (fun _ _ _ h => h) (fun w hw => by go_simp) hS0 ?_
  simp only [List.getElem_toArray, List.getElem_cons_succ, List.getElem_cons_zero, Act.put, List.setIfInBounds_toArray, List.set_cons_zero, List.set_cons_succ]
  refine hd_take 4 (.slice M lm m) rfl rfl (by kernel_rfl) (by kernel_rfl) (by kernel_rfl) (fun _ _ _ h => h) (fun w hw => by have hx := hw.2; simp [go_sem, hx]) hS0 ?_
  simp only [List.getElem_toArray, List.getElem_cons_succ, List.getElem_cons_zero, Act.put, List.setIfInBounds_toArray, List.set_cons_zero, List.set_cons_succ]
  refine hd_calls 2 78 #[.agg #[.map (some bm), .slice M lm m], .int .i64 z] rfl rfl (by kernel_rfl) (by go_simp) ((HRE.out _ (bel_on D2.out k0) k0).mono ?_)
  rintro e v1 ⟨⟨R, r, rfl, hR⟩, hb1⟩
  have k1 := bel_on k0 hb1
  have hS1 := HSX.out _ k1
  refine ⟨_, rfl, hS1, ?_⟩
  simp only [List.getElem_toArray, List.getElem_cons_succ, List.getElem_cons_zero, Act.put, List.setIfInBounds_toArray, List.set_cons_zero, List.set_cons_succ]
  refine hd_calls 5 52 #[.slice R lr r, .slice M lm m] rfl rfl (by kernel_rfl) (by go_simp) ((HRT.out R r v1 hR (N2.out.below k1)).mono ?_)
  rintro e v2 ⟨v, rfl, Xa, xc, Ya, yd, rfl, hXX, hYY, hap, hb2⟩
  have k2 := bel_on k1 hb2
  have hS2 := HSX.out _ k2
  refine ⟨_, rfl, hS2, ?_⟩
  simp only [List.getElem_toArray, List.getElem_cons_succ, List.getElem_cons_zero, Act.put, List.setIfInBounds_toArray, List.set_cons_zero, List.set_cons_succ]
  obtain ⟨lx, hlx⟩ : ∃ q, (lowS (srch b l y l.length z) (sall b l l.length)).1.length = q := ⟨_, rfl⟩
  obtain ⟨ly, hly⟩ : ∃ q, (lowS (srch b l y l.length z) (sall b l l.length)).2.length = q := ⟨_, rfl⟩
  rw [hlx, hly]
  refine hd_take 6 (.agg #[.slice Xa lx xc, .slice Ya ly yd]) rfl rfl (by kernel_rfl) (by kernel_rfl) (by kernel_rfl) (fun _ _ _ h => h) (fun w hw => by go_simp) hS2 ?_
  refine hd_take 7 (.int .i64 0) rfl rfl (by kernel_rfl) (by kernel_rfl) (by kernel_rfl) (fun _ _ _ h => h) (fun w hw => by go_simp) hS2 ?_
  simp only [List.getElem_toArray, List.getElem_cons_succ, List.getElem_cons_zero, Act.put, List.setIfInBounds_toArray, List.set_cons_zero, List.set_cons_succ]
  have Y3 := Y2.out.below' k2
  have q0 := Y3.cell 0
  have q1 := Y3.cell 1
  have f0 := Y3.frozen 0
  have f1 := Y3.frozen 1
  have hS3 := HSY.out _ k2 (.slice Xa lx xc) (.slice Ya ly yd)
  refine hd_sole 8 (by kernel_rfl) (op_skip ((v2.setCell ⟨w.heap.size + 1, 0, none⟩ (.slice Xa lx xc)).setCell ⟨w.heap.size + 1, 1, none⟩ (.slice Ya ly yd)) rfl rfl (by simp [go_sem, q0, q1, f0, f1]) ⟨hS3, ?_⟩)
  simp only [List.getElem_toArray, List.getElem_cons_succ, List.getElem_cons_zero, Act.put, List.setIfInBounds_toArray, List.set_cons_zero, List.set_cons_succ]
  refine hd_take 9 (.int .i64 0) rfl rfl (by kernel_rfl) (by kernel_rfl) (by kernel_rfl) (fun _ _ _ h => h) (fun w hw => by go_simp) hS3 ?_
  refine wpAnyH_done (by kernel_rfl) (NoPanic.normal ?_) _
  simp only [List.getElem_toArray, List.getElem_cons_succ, List.getElem_cons_zero, Act.put, List.setIfInBounds_toArray, List.set_cons_zero, List.set_cons_succ]
  have HFX := Lib.hid (hXX.mono (show w.heap.size + 2 ≤ v1.heap.size by have h1 := hz0.out; have h2 := D2.out.size; have h3 := k1.size; omega))
  have HFY := Lib.hid (hYY.mono (show w.heap.size + 2 ≤ v1.heap.size by have h1 := hz0.out; have h2 := D2.out.size; have h3 := k1.size; omega))
  have HAP := Lib.hid hap
  have HBF := Lib.hid (bel_on (bel_on b0.out D2.out) k2)
  have RB := (Y3.set_ 0 (.slice Xa lx xc)).set_ 1 (.slice Ya ly yd)
  have z0 := RB.cell 0
  have z1 := RB.cell 1
  clear k0 k1 k2 hS0 hS1 hS2 hS3 hb1 hb2 hR hXX hYY hap Y3 RB
  go_wp2_with fail
  refine bodyPost_ret (v := .tuple #[.agg #[.slice Xa lx xc, .slice Ya ly yd], .int .i64 0]) (by simp [results, Tryz.f28, go_sem, z0, z1, q0, q1, f0, f1]) rfl (Frac2.mk' HS.out ?_)
  rw [← hlx, ← hly]
  exact fracNew_store HFX.out HFY.out HAP.out (by omega) HBF.out _ _
theorem Chance_any (u b : Int) (A : Option Addr) (c : Nat) (l : List Int) (k : List UInt8) (Y : Option Addr) (d : Nat) (y : List UInt8) (z : Int) (w : World) {n ny : Nat} (hn : l.length = n) (hyl : y.length = ny) (h : IR w A c l) (hy : BR w Y d y) (hk : k.length = 16) :
    Calls Tryz.prog 28 #[.agg (scC u b A n c k).toArray, .slice Y ny d, .int .i64 z] w fun e w' => Frac2 w w' e (chanceS u b l y z) := by
  by_cases he : ckSC u b l y = 0
  · exact Chance_yes u b A c l k Y d y z w hn hyl h hy hk he
  · exact Chance_no u b A c l k Y d y z w hn hyl h hy hk he
set_option maxHeartbeats 2000000 in
set_option maxRecDepth 100000 in
theorem Bound_no (u b : Int) (A : Option Addr) (c : Nat) (l : List Int) (k : List UInt8) (Y : Option Addr) (d : Nat) (y : List UInt8) (X : Option Addr) (cx : Nat) (x : List Nat) (Z : Option Addr) (cz : Nat) (z : List Nat) (w : World) {n ny lx lz : Nat} (hn : l.length = n) (hyl : y.length = ny) (hlx : x.length = lx) (hlz : z.length = lz) (h : IR w A c l) (hy : BR w Y d y) (hk : k.length = 16) (hx : NR w X cx x) (hz : NR w Z cz z) (hne : ckSC u b l y ≠ 0) :
    Calls Tryz.prog 31 #[.agg (scC u b A n c k).toArray, .slice Y ny d, .agg #[.slice X lx cx, .slice Z lz cz]] w fun e w' => e = .returned (.tuple #[.int .i64 (boundS u b l y x z).1, .int .i64 (boundS u b l y x z).2]) ∧ Below w.heap.size w w' := by
  have HS : Hid (boundS u b l y x z = (0, ckSC u b l y)) := by unfold Hid boundS; rw [if_neg hne]
  have HIN := Lib.hid (scC_info u b A n c k hk)
  have HCH : Hid (∀ W, Below w.heap.size w W → Calls Tryz.prog 77 #[.agg (scC u b A n c k).toArray, .slice Y ny d] W fun e w' => e = .returned (.tuple #[.agg #[.map none, .slice none 0 0], .int .i64 (ckSC u b l y)]) ∧ Below W.heap.size W w') := fun W hW => chances_no u b A c l k Y d y W hn hyl (h.below hW) (hy.below hW) hk hne
  obtain ⟨er, her⟩ : ∃ er, ckSC u b l y = er := ⟨_, rfl⟩
  have t1 : (er == 0) = false := by rw [beq_eq_false_iff_ne, ← her]; exact hne
  have t2 : ¬ er = 0 := by rw [← her]; exact hne
  obtain ⟨W0, hW0⟩ : ∃ W : World, W = (w.alloc (.cells (scC u b A n c k).toArray 46)).alloc (.cells #[.slice X lx cx, .slice Z lz cz] 27) := ⟨_, rfl⟩
  have b0 : Hid (Below w.heap.size w W0) := by unfold Hid; rw [hW0]; exact alloc2_bel _ _ _
  have x0 : Hid (Blk W0 w.heap.size 46 (scC u b A n c k).toArray) := by unfold Hid; rw [hW0]; exact blk_b0 w _ _ _
  have y0 : Hid (Blk W0 (w.heap.size + 1) 27 #[.slice X lx cx, .slice Z lz cz]) := by unfold Hid; rw [hW0]; exact blk_b1 w _ _ _
  have hz0 : Hid (W0.heap.size = w.heap.size + 2) := by unfold Hid; rw [hW0]; simp
  have HW0 := Lib.hid hW0
  rw [her] at HCH HS
  clear hn hyl h hy hk hW0 hne her hx hz hlx hlz
  go_enter Tryz.func31, Tryz.ntmps31
  go_wp2_with (first
    | (rw [← HW0.out])
    | (refine wpList_load_row rfl 46 (.tmp 3) rfl w.heap.size rfl 46 (scC u b A n c k).toArray (0, 0) _ x0.out Tryz.underlying46 rfl HIN.out ?_)
    | (go_at_call 77; (with_reducible refine (HCH.out _ b0.out).mono ?_); rintro e w1 ⟨rfl, hb1⟩; have D2 : Hid (Below W0.heap.size W0 (w1.alloc (.cells #[.map none, .slice none 0 0] 122))) := bel_on hb1 (alloc_bel _ _); have Y2 := Lib.hid (y0.out.below' D2.out); clear hb1))
  go_ret2
  exact ⟨by rw [HS.out]; rfl, bel_on b0.out D2.out⟩
set_option maxHeartbeats 2000000 in
set_option maxRecDepth 100000 in
theorem Bound_lim (u b : Int) (A : Option Addr) (c : Nat) (l : List Int) (k : List UInt8) (Y : Option Addr) (d : Nat) (y : List UInt8) (X : Option Addr) (cx : Nat) (x : List Nat) (Z : Option Addr) (cz : Nat) (z : List Nat) (w : World) {n ny lx lz : Nat} (hn : l.length = n) (hyl : y.length = ny) (hlx : x.length = lx) (hlz : z.length = lz) (h : IR w A c l) (hy : BR w Y d y) (hk : k.length = 16) (hx : NR w X cx x) (hz : NR w Z cz z) (he : ckSC u b l y = 0) (hl : limB x z = false) :
    Calls Tryz.prog 31 #[.agg (scC u b A n c k).toArray, .slice Y ny d, .agg #[.slice X lx cx, .slice Z lz cz]] w fun e w' => e = .returned (.tuple #[.int .i64 (boundS u b l y x z).1, .int .i64 (boundS u b l y x z).2]) ∧ Below w.heap.size w w' := by
  have HS : Hid (boundS u b l y x z = (0, 2)) := by unfold Hid boundS; rw [if_pos he, hl]; rfl
  have HIN := Lib.hid (scC_info u b A n c k hk)
  obtain ⟨hv, hc⟩ := ckSC_zero he
  obtain ⟨r1, r2, r3, r4⟩ := score_range (y := y) hv
  obtain ⟨lm, hlm⟩ : ∃ lm, (digs (sall b l l.length)).length = lm := ⟨_, rfl⟩
  have HCH : Hid (∀ W, Below w.heap.size w W → Calls Tryz.prog 77 #[.agg (scC u b A n c k).toArray, .slice Y ny d] W fun e w' => (∃ bm M m, e = .returned (.tuple #[.agg #[.map (some bm), .slice M lm m], .int .i64 0]) ∧ NM w' bm 5000 (scnt b l y l.length) (-2048) 2048 ∧ NR w' M m (digs (sall b l l.length))) ∧ Below W.heap.size W w') := fun W hW => by rw [← hlm]; exact chances_yes u b A c l k Y d y W hn hyl (h.below hW) (hy.below hW) hk he
  have HLI : Hid (∀ W, Below w.heap.size w W → Calls Tryz.prog 69 #[.agg #[.slice X lx cx, .slice Z lz cz]] W fun e w' => e = .returned (.bool (limB x z)) ∧ Below W.heap.size W w') := fun W hW => isLimit_any X cx x Z cz z W hlx hlz (hx.below hW) (hz.below hW)
  obtain ⟨W0, hW0⟩ : ∃ W : World, W = (w.alloc (.cells (scC u b A n c k).toArray 46)).alloc (.cells #[.slice X lx cx, .slice Z lz cz] 27) := ⟨_, rfl⟩
  have b0 : Hid (Below w.heap.size w W0) := by unfold Hid; rw [hW0]; exact alloc2_bel _ _ _
  have x0 : Hid (Blk W0 w.heap.size 46 (scC u b A n c k).toArray) := by unfold Hid; rw [hW0]; exact blk_b0 w _ _ _
  have y0 : Hid (Blk W0 (w.heap.size + 1) 27 #[.slice X lx cx, .slice Z lz cz]) := by unfold Hid; rw [hW0]; exact blk_b1 w _ _ _
  have hz0 : Hid (W0.heap.size = w.heap.size + 2) := by unfold Hid; rw [hW0]; simp
  have HW0 := Lib.hid hW0
  rw [hl] at HLI
  clear hn hyl h hy hk hW0 he hv hc r1 r2 r3 r4 hlm hl hx hz hlx hlz
  go_enter Tryz.func31, Tryz.ntmps31
  go_wp2_with (first
    | (rw [← HW0.out])
    | (refine wpList_load_row rfl 46 (.tmp 3) rfl w.heap.size rfl 46 (scC u b A n c k).toArray (0, 0) _ x0.out Tryz.underlying46 rfl HIN.out ?_)
    | (go_at_call 77; (with_reducible refine (HCH.out _ b0.out).mono ?_); rintro e w1 ⟨⟨bm, M, m, rfl, hm1, hn1⟩, hb1⟩; obtain ⟨w2, hw2⟩ : ∃ W, W = w1.alloc (.cells #[.map (some bm), .slice M lm m] 122) := ⟨_, rfl⟩; have E2 : Hid (Below w1.heap.size w1 w2) := (by unfold Hid; rw [hw2]; exact alloc_bel _ _); have D2 : Hid (Below W0.heap.size W0 w2) := bel_on hb1 E2.out; have Y2 := Lib.hid (y0.out.below' D2.out); have S2 : Hid (Blk w2 w1.heap.size 122 #[.map (some bm), .slice M lm m]) := (by unfold Hid; rw [hw2]; exact Blk.new _ _ _); have M2 := Lib.hid (hm1.below E2.out); have N2 := Lib.hid (hn1.below E2.out); have HW2 := Lib.hid hw2; clear hb1 hw2 hm1 hn1)
    | (rw [← HW2.out])
    | (refine wpList_load_row rfl 27 (.tmp 5) rfl (w.heap.size + 1) rfl 27 #[.slice X lx cx, .slice Z lz cz] (0, 0) _ Y2.out Tryz.underlying27 rfl (by kernel_rfl) ?_)
    | (go_at_call 69; (with_reducible refine (HLI.out _ (bel_on b0.out D2.out)).mono ?_); rintro e w3 ⟨rfl, hb3⟩; have D3 := Lib.hid (bel_on D2.out hb3); clear hb3))
  go_ret2
  exact ⟨by rw [HS.out]; rfl, bel_on b0.out D3.out⟩
set_option maxHeartbeats 2000000 in
set_option maxRecDepth 100000 in
theorem Bound_yes (u b : Int) (A : Option Addr) (c : Nat) (l : List Int) (k : List UInt8) (Y : Option Addr) (d : Nat) (y : List UInt8) (X : Option Addr) (cx : Nat) (x : List Nat) (Z : Option Addr) (cz : Nat) (z : List Nat) (w : World) {n ny lx lz : Nat} (hn : l.length = n) (hyl : y.length = ny) (hlx : x.length = lx) (hlz : z.length = lz) (h : IR w A c l) (hy : BR w Y d y) (hk : k.length = 16) (hx : NR w X cx x) (hz : NR w Z cz z) (he : ckSC u b l y = 0) (hl : limB x z = true) :
    Calls Tryz.prog 31 #[.agg (scC u b A n c k).toArray, .slice Y ny d, .agg #[.slice X lx cx, .slice Z lz cz]] w fun e w' => e = .returned (.tuple #[.int .i64 (boundS u b l y x z).1, .int .i64 (boundS u b l y x z).2]) ∧ Below w.heap.size w w' := by
  have HS : Hid (boundS u b l y x z = (sbnd b l y l.length (val x) (val z), 0)) := by unfold Hid boundS; rw [if_pos he, if_pos hl]
  have HIN := Lib.hid (scC_info u b A n c k hk)
  obtain ⟨hv, hc⟩ := ckSC_zero he
  obtain ⟨r1, r2, r3, r4⟩ := score_range (y := y) hv
  obtain ⟨lm, hlm⟩ : ∃ lm, (digs (sall b l l.length)).length = lm := ⟨_, rfl⟩
  have HCH : Hid (∀ W, Below w.heap.size w W → Calls Tryz.prog 77 #[.agg (scC u b A n c k).toArray, .slice Y ny d] W fun e w' => (∃ bm M m, e = .returned (.tuple #[.agg #[.map (some bm), .slice M lm m], .int .i64 0]) ∧ NM w' bm 5000 (scnt b l y l.length) (-2048) 2048 ∧ NR w' M m (digs (sall b l l.length))) ∧ Below W.heap.size W w') := fun W hW => by rw [← hlm]; exact chances_yes u b A c l k Y d y W hn hyl (h.below hW) (hy.below hW) hk he
  have HLI : Hid (∀ W, Below w.heap.size w W → Calls Tryz.prog 69 #[.agg #[.slice X lx cx, .slice Z lz cz]] W fun e w' => e = .returned (.bool (limB x z)) ∧ Below W.heap.size W w') := fun W hW => isLimit_any X cx x Z cz z W hlx hlz (hx.below hW) (hz.below hW)
  obtain ⟨W0, hW0⟩ : ∃ W : World, W = (w.alloc (.cells (scC u b A n c k).toArray 46)).alloc (.cells #[.slice X lx cx, .slice Z lz cz] 27) := ⟨_, rfl⟩
  have b0 : Hid (Below w.heap.size w W0) := by unfold Hid; rw [hW0]; exact alloc2_bel _ _ _
  have x0 : Hid (Blk W0 w.heap.size 46 (scC u b A n c k).toArray) := by unfold Hid; rw [hW0]; exact blk_b0 w _ _ _
  have y0 : Hid (Blk W0 (w.heap.size + 1) 27 #[.slice X lx cx, .slice Z lz cz]) := by unfold Hid; rw [hW0]; exact blk_b1 w _ _ _
  have hz0 : Hid (W0.heap.size = w.heap.size + 2) := by unfold Hid; rw [hW0]; simp
  have HW0 := Lib.hid hW0
  rw [hl] at HLI
  have HBD : Hid (∀ bm M m W, Below w.heap.size w W → NM W bm 5000 (scnt b l y l.length) (-2048) 2048 → NR W M m (digs (sall b l l.length)) → Calls Tryz.prog 85 #[.agg #[.map (some bm), .slice M lm m], .agg #[.slice X lx cx, .slice Z lz cz]] W fun e w' => e = .returned (.int .i64 (sbnd b l y l.length (val x) (val z))) ∧ Below W.heap.size W w') := fun bm M m W hW g1 g2 => bound_any b l y l.length bm lm m M X cx x Z cz z W hlm hlx hlz g1 g2 (hx.below hW) (hz.below hW) hl r1 r2 r3 r4
  clear hn hyl h hy hk hW0 he hv hc r1 r2 r3 r4 hlm hl hx hz hlx hlz
  go_enter Tryz.func31, Tryz.ntmps31
  go_wp2_with (first
    | (rw [← HW0.out])
    | (refine wpList_load_row rfl 46 (.tmp 3) rfl w.heap.size rfl 46 (scC u b A n c k).toArray (0, 0) _ x0.out Tryz.underlying46 rfl HIN.out ?_)
    | (go_at_call 77; (with_reducible refine (HCH.out _ b0.out).mono ?_); rintro e w1 ⟨⟨bm, M, m, rfl, hm1, hn1⟩, hb1⟩; obtain ⟨w2, hw2⟩ : ∃ W, W = w1.alloc (.cells #[.map (some bm), .slice M lm m] 122) := ⟨_, rfl⟩; have E2 : Hid (Below w1.heap.size w1 w2) := (by unfold Hid; rw [hw2]; exact alloc_bel _ _); have D2 : Hid (Below W0.heap.size W0 w2) := bel_on hb1 E2.out; have Y2 := Lib.hid (y0.out.below' D2.out); have S2 : Hid (Blk w2 w1.heap.size 122 #[.map (some bm), .slice M lm m]) := (by unfold Hid; rw [hw2]; exact Blk.new _ _ _); have M2 := Lib.hid (hm1.below E2.out); have N2 := Lib.hid (hn1.below E2.out); have HW2 := Lib.hid hw2; clear hb1 hw2 hm1 hn1)
    | (rw [← HW2.out])
    | (refine wpList_load_row rfl 27 (.tmp 5) rfl (w.heap.size + 1) rfl 27 #[.slice X lx cx, .slice Z lz cz] (0, 0) _ Y2.out Tryz.underlying27 rfl (by kernel_rfl) ?_)
    | (go_at_call 69; (with_reducible refine (HLI.out _ (bel_on b0.out D2.out)).mono ?_); rintro e w3 ⟨rfl, hb3⟩; have D3 := Lib.hid (bel_on D2.out hb3); have S3 := Lib.hid (S2.out.below' hb3); have Y3 := Lib.hid (Y2.out.below' hb3); have M3 := Lib.hid (M2.out.below hb3); have N3 := Lib.hid (N2.out.below hb3); clear hb3)
    | (refine wpList_load_row rfl 122 (.tmp 8) rfl w1.heap.size rfl 122 #[.map (some bm), .slice M lm m] (0, 0) _ S3.out Tryz.underlying122 rfl (by kernel_rfl) ?_)
    | (refine wpList_load_row rfl 27 (.tmp 5) rfl (w.heap.size + 1) rfl 27 #[.slice X lx cx, .slice Z lz cz] (0, 0) _ Y3.out Tryz.underlying27 rfl (by kernel_rfl) ?_)
    | (go_at_call 85; (with_reducible refine (HBD.out _ _ _ _ (bel_on b0.out D3.out) M3.out N3.out).mono ?_); rintro e w4 ⟨rfl, hb4⟩; have D4 := Lib.hid (bel_on D3.out hb4); clear hb4))
  go_ret2
  exact ⟨by rw [HS.out]; rfl, bel_on b0.out D4.out⟩
theorem Bound_any (u b : Int) (A : Option Addr) (c : Nat) (l : List Int) (k : List UInt8) (Y : Option Addr) (d : Nat) (y : List UInt8) (X : Option Addr) (cx : Nat) (x : List Nat) (Z : Option Addr) (cz : Nat) (z : List Nat) (w : World) {n ny lx lz : Nat} (hn : l.length = n) (hyl : y.length = ny) (hlx : x.length = lx) (hlz : z.length = lz) (h : IR w A c l) (hy : BR w Y d y) (hk : k.length = 16) (hx : NR w X cx x) (hz : NR w Z cz z) :
    Calls Tryz.prog 31 #[.agg (scC u b A n c k).toArray, .slice Y ny d, .agg #[.slice X lx cx, .slice Z lz cz]] w fun e w' => e = .returned (.tuple #[.int .i64 (boundS u b l y x z).1, .int .i64 (boundS u b l y x z).2]) ∧ Below w.heap.size w w' := by
  by_cases he : ckSC u b l y = 0
  · cases hl : limB x z
    · exact Bound_lim u b A c l k Y d y X cx x Z cz z w hn hyl hlx hlz h hy hk hx hz he hl
    · exact Bound_yes u b A c l k Y d y X cx x Z cz z w hn hyl hlx hlz h hy hk hx hz he hl
  · exact Bound_no u b A c l k Y d y X cx x Z cz z w hn hyl hlx hlz h hy hk hx hz he
end Go.Proofs.YtenpkmgbaajeeaaGreat

/- The users whose scores reach the bound, of the program. -/
namespace Go.Proofs.YtenpkmgbaajeeaaGreat
open Go.RowKit Go.Maps
set_option linter.unusedVariables false
set_option linter.unusedSimpArgs false

/-- A user is named for a bound. -/
def namedS (b : Int) (l : List Int) (k : List UInt8) (y : List UInt8) (z : Int) (u : Nat) : Bool := decide (z ≤ sumS b l (scoreWordS k b l (u : Int)) y l.length)
def nmsC (u b : Int) (l : List Int) (k : List UInt8) (y : List UInt8) (p q : List Nat) : List Int × Int := if (boundS u b l y p q).2 = 0 then (namesF (namedS b l k y (boundS u b l y p q).1) u.toNat, 0) else ([], (boundS u b l y p q).2)
theorem scoreWordS_bit (k : List UInt8) (b : Int) (l : List Int) (u : Int) (i : Nat) : bt (scoreWordS k b l u) i ≤ 1 := by
  unfold bt scoreWordS
  rw [List.getD_eq_getElem?_getD, List.getElem?_map]
  by_cases h : i < l.length
  · simp only [List.getElem?_range h, Option.map_some, Option.getD_some]
    split <;> decide
  · rw [List.getElem?_eq_none (by simpa using h)]; exact Nat.zero_le _
theorem boundS_ok {u b : Int} {l : List Int} {y : List UInt8} {p q : List Nat} (h : (boundS u b l y p q).2 = 0) : ckSC u b l y = 0 ∧ limB p q = true := by
  unfold boundS at h
  split at h
  · rename_i h1
    split at h
    · rename_i h2; exact ⟨h1, h2⟩
    · cases h
  · rename_i h1; exact absurd h h1
set_option maxHeartbeats 4000000 in
set_option maxRecDepth 100000 in
theorem TraceScores_own (u b : Int) (A : Option Addr) (c : Nat) (l : List Int) (k : List UInt8) (Y : Option Addr) (d : Nat) (y : List UInt8) (X : Option Addr) (cx : Nat) (x : List Nat) (Z : Option Addr) (cz : Nat) (z : List Nat) (w : World) {n ny lx lz : Nat} (hn : l.length = n) (hyl : y.length = ny) (hlx : x.length = lx) (hlz : z.length = lz) (h : IR w A c l) (hy : BR w Y d y) (hk : k.length = 16) (hx : NR w X cx x) (hz : NR w Z cz z) :
    Calls Tryz.prog 33 #[.agg (scC u b A n c k).toArray, .slice Y ny d, .agg #[.slice X lx cx, .slice Z lz cz]] w fun e w' => IntsOwn w.heap.size (nmsC u b l k y x z) e w' ∧ Below w.heap.size w w' := by
  have mixed : Tryz.prog.follows Departure.mixedOrders = true := by kernel_rfl
  obtain ⟨W0, hW0⟩ : ∃ W : World, W = (w.alloc (.cells (scC u b A n c k).toArray 46)).alloc (.cells #[.slice X lx cx, .slice Z lz cz] 27) := ⟨_, rfl⟩
  have b0 : Hid (Below w.heap.size w W0) := by unfold Hid; rw [hW0]; exact alloc2_bel _ _ _
  have x0 : Hid (Blk W0 w.heap.size 46 (scC u b A n c k).toArray) := by unfold Hid; rw [hW0]; exact blk_b0 w _ _ _
  have y0 : Hid (Blk W0 (w.heap.size + 1) 27 #[.slice X lx cx, .slice Z lz cz]) := by unfold Hid; rw [hW0]; exact blk_b1 w _ _ _
  have hz0 : Hid (W0.heap.size = w.heap.size + 2) := by unfold Hid; rw [hW0]; simp
  have HW0 := Lib.hid hW0
  have HIN := Lib.hid (scC_info u b A n c k hk)
  have HINL : Hid ((Tryz.prog.info? 46).map (·.size) = some (scC u b A n c k).length) := by unfold Hid; simpa using scC_info u b A n c k hk
  have HBD : Hid (∀ W, Below w.heap.size w W → Calls Tryz.prog 31 #[.agg (scC u b A n c k).toArray, .slice Y ny d, .agg #[.slice X lx cx, .slice Z lz cz]] W fun e w' => e = .returned (.tuple #[.int .i64 (boundS u b l y x z).1, .int .i64 (boundS u b l y x z).2]) ∧ Below W.heap.size W w') := fun W hW => Bound_any u b A c l k Y d y X cx x Z cz z W hn hyl hlx hlz (h.below hW) (hy.below hW) hk (hx.below hW) (hz.below hW)
  by_cases he : (boundS u b l y x z).2 = 0
  · obtain ⟨hsc, hli⟩ := boundS_ok he
    obtain ⟨hv, hc⟩ := ckSC_zero hsc
    obtain ⟨hyn, hcy⟩ := copyB_sym hc
    obtain ⟨⟨o1, o2, o3, o4, o5, o6⟩, o7⟩ := scoresB_parts hv
    obtain ⟨un, hun⟩ : ∃ un : Nat, u = (un : Int) := ⟨u.toNat, by omega⟩
    have HS : Hid (nmsC u b l k y x z = (namesF (namedS b l k y (boundS u b l y x z).1) un, 0)) := by unfold Hid nmsC; rw [if_pos he, hun, Int.toNat_natCast]
    rw [he] at HBD
    obtain ⟨zb, hzb⟩ : ∃ zb, (boundS u b l y x z).1 = zb := ⟨_, rfl⟩
    rw [hzb] at HBD HS
    obtain ⟨P, hP⟩ : ∃ P, namedS b l k y zb = P := ⟨_, rfl⟩
    rw [hP] at HS
    obtain rfl : ny = n := by omega
    have HPP : Hid (∀ i : Nat, decide (zb ≤ sumS b l (scoreWordS k b l (i : Int)) y ny) = P i) := fun i => by rw [← hP, ← hn]; rfl
    have HSW0 : Hid (∀ i : Nat, (i : Int) ≤ 64 → ∀ W, Below w.heap.size w W → Calls Tryz.prog 88 #[.agg (scC u b A ny c k).toArray, .int .i64 (i : Int)] W fun e w' => ∃ A' c', e = .returned (.slice A' ny c') ∧ BR w' A' c' (scoreWordS k b l (i : Int)) ∧ Below W.heap.size W w') := fun i hi W hW => (scoreWord_any u b A c l k (i : Int) W hn (h.below hW) hk hv (by omega) hi).mono fun e w' ⟨A', c', e1, e2, e3⟩ => ⟨A', c', e1, e2.br (by rw [scoreWordS_length, hn]; omega), e3⟩
    have HSC0 : Hid (∀ (i : Nat) V cv W, Below w.heap.size w W → BR W V cv (scoreWordS k b l (i : Int)) → Calls Tryz.prog 87 #[.agg (scC u b A ny c k).toArray, .slice V ny cv, .slice Y ny d] W fun e w' => e = .returned (.int .i64 (sumS b l (scoreWordS k b l (i : Int)) y ny)) ∧ Below W.heap.size W w') := fun i V cv W hW hV => score_any u b A c l k V cv _ Y d y W hn (by rw [scoreWordS_length, hn]) hyl (h.below hW) hV (hy.below hW) hk hv (fun j _ => scoreWordS_bit k b l i j) (fun j hj => hcy j (by omega))
    have hu1 : (1 : Int) ≤ un := by omega
    have hu2 : (un : Int) ≤ 64 := by omega
    clear hn hyl h hy hk hW0 hx hz hlx hlz he hsc hli hv hc hyn hcy o1 o2 o3 o4 o5 o6 o7 hP hzb
    have HUN := Lib.hid hun
    clear hun
    go_enter Tryz.func33, Tryz.ntmps33
    go_wp2_with (first
      | (rw [← HW0.out])
      | (refine wpList_load_row rfl 46 (.tmp 3) rfl w.heap.size rfl 46 (scC u b A ny c k).toArray (0, 0) _ x0.out Tryz.underlying46 rfl HIN.out ?_)
      | (refine wpList_load_row rfl 27 (.tmp 5) rfl (w.heap.size + 1) rfl 27 #[.slice X lx cx, .slice Z lz cz] (0, 0) _ y0.out Tryz.underlying27 rfl (by kernel_rfl) ?_)
      | (go_at_call 31; (with_reducible refine (HBD.out _ b0.out).mono ?_); rintro e w1 ⟨rfl, hb1⟩; have D1 := Lib.hid hb1; have X1 := Lib.hid (x0.out.below' hb1); have c0 : w1.cell? ⟨w.heap.size, 0, none⟩ = some (.int .i64 (un : Int)) := (by rw [← HUN.out]; exact X1.out.cell 0); clear hb1))
    clear c0
    have HBW : Hid (∀ W, Below w1.heap.size w1 W → Below w.heap.size w W) := fun W hW => bel_on (bel_on b0.out D1.out) hW
    have HSX : Hid (∀ W, Below w1.heap.size w1 W → W.rangeAt w.heap.size 0 (scC u b A ny c k)) := fun W hW => (X1.out.below' hW).range
    have HSW : Hid (∀ i : Nat, (i : Int) ≤ 64 → ∀ W, Below w1.heap.size w1 W → Calls Tryz.prog 88 #[.agg (scC u b A ny c k).toArray, .int .i64 (i : Int)] W fun e w' => ∃ A' c', e = .returned (.slice A' ny c') ∧ BR w' A' c' (scoreWordS k b l (i : Int)) ∧ Below W.heap.size W w') := fun i hi W hW => HSW0.out i hi W (HBW.out W hW)
    have HSC : Hid (∀ (i : Nat) V cv W, Below w1.heap.size w1 W → BR W V cv (scoreWordS k b l (i : Int)) → Calls Tryz.prog 87 #[.agg (scC u b A ny c k).toArray, .slice V ny cv, .slice Y ny d] W fun e w' => e = .returned (.int .i64 (sumS b l (scoreWordS k b l (i : Int)) y ny)) ∧ Below W.heap.size W w') := fun i V cv W hW hV => HSC0.out i V cv W (HBW.out W hW) hV
    go_loopw [10, 24] (fun vs vi wr => ∃ (i ll c1 : Nat) (R : Option Addr), i ≤ un ∧ vi = .int .i64 (i : Int) ∧ vs = .slice R ll c1 ∧ Hid ((namesF P i).length = ll) ∧ Hid (OI w1.heap.size wr R c1 (namesF P i)) ∧ Below w1.heap.size w1 wr) (fun _ vi _ => un - (intOf vi).toNat)
    case atStart => exact ⟨0, 0, 0, none, by omega, rfl, rfl, rfl, OI.nil _ _, Below.refl _ _⟩
    case round =>
      obtain ⟨i, ll, c1, R, hi, rfl, rfl, HL, HO, hbel⟩ := hrel
      by_cases hlt : i < un
      · have hii : (i : Int) < (un : Int) := by omega
        have hll : ll ≤ 64 := by have := namesF_length P i; rw [HL.out] at this; omega
        go_wp2_with fail
        refine wp_region_noPanic ?_
        obtain ⟨v0, hv0⟩ : ∃ W, W = wr.drew := ⟨_, rfl⟩
        have k0 : Below w1.heap.size w1 v0 := by rw [hv0]; exact hbel.drew
        have O0 : Hid (OI w1.heap.size v0 R c1 (namesF P i)) := by unfold Hid; rw [hv0]; exact HO.out
        refine wp_region_held_drew (S := fun W => W.rangeAt w.heap.size 0 (scC u b A ny c k)) (by kernel_rfl) (by rw [← hv0]; exact HSX.out _ k0) (fun hS0 => ?_)
        rw [← hv0] at hS0 ⊢
        clear hv0
        refine hd_load 0 w.heap.size 0 (scC u b A ny c k) 46 (.tmp 3) rfl rfl rfl (by kernel_rfl) (by kernel_rfl) (by kernel_rfl) (fun _ _ _ h => h) rfl (fun w h => h) Tryz.underlying46 rfl HINL.out hS0 ?_
        refine hd_load 1 w.heap.size 0 (scC u b A ny c k) 46 (.tmp 3) rfl rfl rfl (by kernel_rfl) (by kernel_rfl) (by kernel_rfl) (fun _ _ _ h => h) rfl (fun w h => h) Tryz.underlying46 rfl HINL.out hS0 ?_
        refine hd_take 2 (.int .i64 (i : Int)) rfl rfl (by kernel_rfl) (by kernel_rfl) (by kernel_rfl) (fun _ _ _ h => h) (fun w hw => by go_simp) hS0 ?_
        refine hd_take 4 (.slice Y ny d) rfl rfl (by kernel_rfl) (by kernel_rfl) (by kernel_rfl) (fun _ _ _ h => h) (fun w hw => by go_simp) hS0 ?_
        refine hd_take 6 (.int .i64 zb) rfl rfl (by kernel_rfl) (by kernel_rfl) (by kernel_rfl) (fun _ _ _ h => h) (fun w hw => by go_simp) hS0 ?_
        simp only [List.getElem_toArray, List.getElem_cons_succ, List.getElem_cons_zero, Act.put, List.setIfInBounds_toArray, List.set_cons_zero, List.set_cons_succ]
        refine hd_calls 3 88 #[.agg (scC u b A ny c k).toArray, .int .i64 (i : Int)] rfl rfl (by kernel_rfl) (by go_simp) ((HSW.out i (by omega) _ k0).mono ?_)
        rintro e v1 ⟨V, cv, rfl, hV, hb1⟩
        have k1 := bel_on k0 hb1
        have hS1 := HSX.out _ k1
        refine ⟨_, rfl, hS1, ?_⟩
        simp only [List.getElem_toArray, List.getElem_cons_succ, List.getElem_cons_zero, Act.put, List.setIfInBounds_toArray, List.set_cons_zero, List.set_cons_succ]
        refine hd_calls 5 87 #[.agg (scC u b A ny c k).toArray, .slice V ny cv, .slice Y ny d] rfl rfl (by kernel_rfl) (by go_simp) ((HSC.out i V cv _ k1 hV).mono ?_)
        rintro e v2 ⟨rfl, hb2⟩
        have k2 := bel_on k1 hb2
        have hS2 := HSX.out _ k2
        refine ⟨_, rfl, hS2, ?_⟩
        simp only [List.getElem_toArray, List.getElem_cons_succ, List.getElem_cons_zero, Act.put, List.setIfInBounds_toArray, List.set_cons_zero, List.set_cons_succ]
        refine hd_take 7 (.bool (decide (zb ≤ sumS b l (scoreWordS k b l (i : Int)) y ny))) rfl rfl (by kernel_rfl) (by kernel_rfl) (by kernel_rfl) (fun _ _ _ h => h) (fun w hw => by go_simp) hS2 ?_
        refine wpAnyH_done (by kernel_rfl) (NoPanic.normal ?_) _
        simp only [List.getElem_toArray, List.getElem_cons_succ, List.getElem_cons_zero, Act.put, List.setIfInBounds_toArray, List.set_cons_zero, List.set_cons_succ]
        have O2 := Lib.hid ((O0.out.below hb1).below hb2)
        have K2 := Lib.hid k2
        rw [HPP.out i]
        clear k0 k1 k2 hS0 hS1 hS2 hb1 hb2 hV O0
        cases hb_ : P i with
        | true =>
          have HN := Lib.hid (namesF_yes hb_)
          go_wp2_with (at_builtin; refine wpList_append_int _ rfl (.tmp 35) (.tmp 37) rfl w1.heap.size R ll c1 (namesF P i) HL.out rfl (O2.out.below (alloc_bel v2 _)) _ (some ⟨v2.heap.size, 0, none⟩) 1 rfl (src_int v2 _) (by omega) (by have := (K2.out).size; simp; omega) ?_; intro A7 c7 w7 ho7 hb7 hg7; have O7 := Lib.hid ho7; have D7 := Lib.hid (((K2.out).trans ((alloc_bel v2 _).mono (K2.out).size)).trans hb7); clear ho7 hb7 hg7)
          go_roundw
          case rel => exact ⟨i + 1, ll + 1, c7, A7, by omega, by go_num, rfl, by unfold Hid; rw [HN.out, List.length_append, HL.out]; rfl, by unfold Hid; rw [HN.out]; exact O7.out, D7.out⟩
          case measure => simp [intOf] <;> omega
        | false =>
          have HN := Lib.hid (namesF_no hb_)
          go_wp2_with fail
          go_roundw
          case rel => exact ⟨i + 1, ll, c1, R, by omega, by go_num, rfl, by unfold Hid; rw [HN.out]; exact HL.out, by unfold Hid; rw [HN.out]; exact O2.out, K2.out⟩
          case measure => simp [intOf] <;> omega
      · obtain rfl : i = un := by omega
        have hx2 : ¬ ((i : Int) < (i : Int)) := by omega
        go_wp2_with fail
        go_ret2
        refine ⟨?_, HBW.out _ hbel⟩
        rw [HS.out]
        exact ⟨R, c1, by rw [HL.out]; rfl, HO.out.le_ (by have := D1.out.size; have := hz0.out; omega)⟩
  · have HS : Hid (nmsC u b l k y x z = ([], (boundS u b l y x z).2)) := by unfold Hid nmsC; rw [if_neg he]
    obtain ⟨er, her⟩ : ∃ er, (boundS u b l y x z).2 = er := ⟨_, rfl⟩
    have t1 : (er == 0) = false := by rw [beq_eq_false_iff_ne, ← her]; exact he
    have t2 : ¬ er = 0 := by rw [← her]; exact he
    rw [her] at HBD HS
    generalize (boundS u b l y x z).1 = zb at HBD
    clear hn hyl h hy hk hW0 he her hx hz hlx hlz
    go_enter Tryz.func33, Tryz.ntmps33
    go_wp2_with (first
      | (rw [← HW0.out])
      | (refine wpList_load_row rfl 46 (.tmp 3) rfl w.heap.size rfl 46 (scC u b A n c k).toArray (0, 0) _ x0.out Tryz.underlying46 rfl HIN.out ?_)
      | (refine wpList_load_row rfl 27 (.tmp 5) rfl (w.heap.size + 1) rfl 27 #[.slice X lx cx, .slice Z lz cz] (0, 0) _ y0.out Tryz.underlying27 rfl (by kernel_rfl) ?_)
      | (go_at_call 31; (with_reducible refine (HBD.out _ b0.out).mono ?_); rintro e w1 ⟨rfl, hb1⟩; have D1 := Lib.hid hb1; clear hb1))
    go_ret2
    exact ⟨intsOwn_nil _ _ er HS.out, bel_on b0.out D1.out⟩
end Go.Proofs.YtenpkmgbaajeeaaGreat
