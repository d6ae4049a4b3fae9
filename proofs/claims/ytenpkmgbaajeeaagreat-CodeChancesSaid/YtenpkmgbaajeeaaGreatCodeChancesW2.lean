/-
  Lemmas and contracts, joined.
-/
import Derived.Test.YtenpkmgbaajeeaaGreatCodeChancesW1
import Derived.Test.YtenpkmgbaajeeaaGreatCc3
import Derived.Test.YtenpkmgbaajeeaaGreatCc2
import Derived.Test.YtenpkmgbaajeeaaGreatCp2
import Derived.Test.YtenpkmgbaajeeaaGreatCp3
import Derived.Test.YtenpkmgbaajeeaaGreatCc1
import Derived.Test.YtenpkmgbaajeeaaGreatCp1
set_option linter.unusedSimpArgs false
set_option linter.unusedVariables false
set_option linter.unnecessarySimpa false
/- The chance of a score, the bound of a limit and the users named: the reference's. -/
namespace Go.Proofs.YtenpkmgbaajeeaaGreat
open Go.RowKit Go.Maps
set_option linter.unusedVariables false
set_option linter.unusedSimpArgs false

set_option maxHeartbeats 2000000 in
set_option maxRecDepth 100000 in
theorem refChance_bad (u b : Int) (A : Option Addr) (c : Nat) (l : List Int) (k : List UInt8) (Y : Option Addr) (d : Nat) (y : List UInt8) (z : Int) (w : World) {n ny : Nat} (hn : l.length = n) (hyl : y.length = ny) (h : IR w A c l) (hy : BR w Y d y) (hk : k.length = 16) (hv : scoresB u b l = false) :
    Calls Tryz.prog 29 #[.agg (scC u b A n c k).toArray, .slice Y ny d, .int .i64 z] w fun e w' => Frac2 w w' e (chanceS u b l y z) := by
  have HS : Hid (chanceS u b l y z = (([], []), 70)) := by unfold Hid chanceS; rw [ckSC_bad hv]; rfl
  have hlen : (n : Int) ≤ 140737488351232 := by have := h.len; omega
  have HCK : Hid (∀ W, Below w.heap.size w W → Calls Tryz.prog 46 #[.agg (scC u b A n c k).toArray] W fun e w' => e = .returned (.bool (scoresB u b l)) ∧ Below W.heap.size W w') := fun W hW => refValidScores_any u b A c l k W hn (h.below hW)
  have HCP : Hid (∀ W, Below w.heap.size w W → Calls Tryz.prog 44 #[.slice Y ny d, .int .i64 (n : Int)] W fun e w' => e = .returned (.bool (copyB y n)) ∧ W = w') := fun W hW => refIsCopy_any Y d y n W hyl (hy.below hW) (by omega)
  obtain ⟨W0, hW0⟩ : ∃ W : World, W = (w.alloc (.cells (scC u b A n c k).toArray 46)).alloc (.cells #[.slice none 0 0, .slice none 0 0] 27) := ⟨_, rfl⟩
  have b0 : Hid (Below w.heap.size w W0) := by unfold Hid; rw [hW0]; exact alloc2_bel _ _ _
  have x0 : Hid (Blk W0 w.heap.size 46 (scC u b A n c k).toArray) := by unfold Hid; rw [hW0]; exact blk_b0 w _ _ _
  have y0 : Hid (Blk W0 (w.heap.size + 1) 27 #[.slice none 0 0, .slice none 0 0]) := by unfold Hid; rw [hW0]; exact blk_b1 w _ _ _
  have hz0 : Hid (W0.heap.size = w.heap.size + 2) := by unfold Hid; rw [hW0]; simp
  have HW0 := Lib.hid hW0
  have HIN0 : Hid ((Tryz.prog.info? 46).map (·.size) = some (scC u b A n c k).toArray.size) := scC_info u b A n c k hk
  have HV := Lib.hid hv
  clear hn hyl h hy hk hW0 hv
  go_enter Tryz.func29, Tryz.ntmps29
  go_wp2_with (first
    | (rw [← HW0.out])
    | (refine wpList_load_row rfl 46 (.tmp 3) rfl w.heap.size rfl 46 (scC u b A n c k).toArray (0, 0) _ x0.out Tryz.underlying46 rfl HIN0.out ?_)
    | (go_at_call 46; (with_reducible refine (HCK.out _ b0.out).mono ?_); rintro e w1 ⟨rfl, hb1⟩; rw [HV.out]; have X1 := Lib.hid (x0.out.below' hb1); have Y1 := Lib.hid (y0.out.below' hb1); have D1 := Lib.hid hb1; have c2 : w1.cell? ⟨w.heap.size, 2, none⟩ = some (.slice A n c) := X1.out.cell 2; have k0 := Y1.out.cell 0; have k1 := Y1.out.cell 1; have f0 := Y1.out.frozen 0; have f1 := Y1.out.frozen 1; clear hb1))
  have DF := ((bel_on b0.out D1.out).setCell (p := ⟨w.heap.size + 1, 0, none⟩) (by simp) (.slice none 0 0)).setCell (p := ⟨w.heap.size + 1, 1, none⟩) (by simp) (.slice none 0 0)
  have RB := (Y1.out.set_ 0 (.slice none 0 0)).set_ 1 (.slice none 0 0)
  have z0 := RB.cell 0
  have z1 := RB.cell 1
  refine bodyPost_ret (v := .tuple #[.agg #[.slice none 0 0, .slice none 0 0], .int .i64 70]) (by simp [results, Tryz.f29, go_sem, z0, z1, k0, k1, f0, f1]) rfl (Frac2.mk' HS.out (FracNew.zero DF))
set_option maxHeartbeats 2000000 in
set_option maxRecDepth 100000 in
theorem refChance_copy (u b : Int) (A : Option Addr) (c : Nat) (l : List Int) (k : List UInt8) (Y : Option Addr) (d : Nat) (y : List UInt8) (z : Int) (w : World) {n ny : Nat} (hn : l.length = n) (hyl : y.length = ny) (h : IR w A c l) (hy : BR w Y d y) (hk : k.length = 16) (hv : scoresB u b l = true) (hc : copyB y n = false) :
    Calls Tryz.prog 29 #[.agg (scC u b A n c k).toArray, .slice Y ny d, .int .i64 z] w fun e w' => Frac2 w w' e (chanceS u b l y z) := by
  have HS : Hid (chanceS u b l y z = (([], []), 71)) := by unfold Hid chanceS; rw [ckSC_copy hv (by rw [hn]; exact hc)]; rfl
  have hlen : (n : Int) ≤ 140737488351232 := by have := h.len; omega
  have HCK : Hid (∀ W, Below w.heap.size w W → Calls Tryz.prog 46 #[.agg (scC u b A n c k).toArray] W fun e w' => e = .returned (.bool (scoresB u b l)) ∧ Below W.heap.size W w') := fun W hW => refValidScores_any u b A c l k W hn (h.below hW)
  have HCP : Hid (∀ W, Below w.heap.size w W → Calls Tryz.prog 44 #[.slice Y ny d, .int .i64 (n : Int)] W fun e w' => e = .returned (.bool (copyB y n)) ∧ W = w') := fun W hW => refIsCopy_any Y d y n W hyl (hy.below hW) (by omega)
  obtain ⟨W0, hW0⟩ : ∃ W : World, W = (w.alloc (.cells (scC u b A n c k).toArray 46)).alloc (.cells #[.slice none 0 0, .slice none 0 0] 27) := ⟨_, rfl⟩
  have b0 : Hid (Below w.heap.size w W0) := by unfold Hid; rw [hW0]; exact alloc2_bel _ _ _
  have x0 : Hid (Blk W0 w.heap.size 46 (scC u b A n c k).toArray) := by unfold Hid; rw [hW0]; exact blk_b0 w _ _ _
  have y0 : Hid (Blk W0 (w.heap.size + 1) 27 #[.slice none 0 0, .slice none 0 0]) := by unfold Hid; rw [hW0]; exact blk_b1 w _ _ _
  have hz0 : Hid (W0.heap.size = w.heap.size + 2) := by unfold Hid; rw [hW0]; simp
  have HW0 := Lib.hid hW0
  have HIN0 : Hid ((Tryz.prog.info? 46).map (·.size) = some (scC u b A n c k).toArray.size) := scC_info u b A n c k hk
  have HV := Lib.hid hv
  have HCB := Lib.hid hc
  clear hn hyl h hy hk hW0 hv hc
  go_enter Tryz.func29, Tryz.ntmps29
  go_wp2_with (first
    | (rw [← HW0.out])
    | (refine wpList_load_row rfl 46 (.tmp 3) rfl w.heap.size rfl 46 (scC u b A n c k).toArray (0, 0) _ x0.out Tryz.underlying46 rfl HIN0.out ?_)
    | (go_at_call 46; (with_reducible refine (HCK.out _ b0.out).mono ?_); rintro e w1 ⟨rfl, hb1⟩; rw [HV.out]; have X1 := Lib.hid (x0.out.below' hb1); have Y1 := Lib.hid (y0.out.below' hb1); have D1 := Lib.hid hb1; have c2 : w1.cell? ⟨w.heap.size, 2, none⟩ = some (.slice A n c) := X1.out.cell 2; have k0 := Y1.out.cell 0; have k1 := Y1.out.cell 1; have f0 := Y1.out.frozen 0; have f1 := Y1.out.frozen 1; clear hb1)
    | (go_at_call 44; (with_reducible refine (HCP.out _ (bel_on b0.out D1.out)).mono ?_); rintro e w2 ⟨rfl, rfl⟩; rw [HCB.out]))
  have DF := ((bel_on b0.out D1.out).setCell (p := ⟨w.heap.size + 1, 0, none⟩) (by simp) (.slice none 0 0)).setCell (p := ⟨w.heap.size + 1, 1, none⟩) (by simp) (.slice none 0 0)
  have RB := (Y1.out.set_ 0 (.slice none 0 0)).set_ 1 (.slice none 0 0)
  have z0 := RB.cell 0
  have z1 := RB.cell 1
  refine bodyPost_ret (v := .tuple #[.agg #[.slice none 0 0, .slice none 0 0], .int .i64 71]) (by simp [results, Tryz.f29, go_sem, z0, z1, k0, k1, f0, f1]) rfl (Frac2.mk' HS.out (FracNew.zero DF))
set_option maxHeartbeats 8000000 in
set_option maxRecDepth 1000000 in
theorem refChance_good (u b : Int) (A : Option Addr) (c : Nat) (l : List Int) (k : List UInt8) (Y : Option Addr) (d : Nat) (y : List UInt8) (z : Int) (w : World) {n ny : Nat} (hn : l.length = n) (hyl : y.length = ny) (h : IR w A c l) (hy : BR w Y d y) (hk : k.length = 16) (hv : scoresB u b l = true) (hc : copyB y n = true) :
    Calls Tryz.prog 29 #[.agg (scC u b A n c k).toArray, .slice Y ny d, .int .i64 z] w fun e w' => Frac2 w w' e (chanceS u b l y z) := by
  have HS : Hid (chanceS u b l y z = (lowS (srch b l y n z) (sall b l n), 0)) := by unfold Hid chanceS; rw [ckSC_ok hv (by rw [hn]; exact hc), if_pos rfl, hn]
  have hlen : (n : Int) ≤ 140737488351232 := by have := h.len; omega
  have HCK : Hid (∀ W, Below w.heap.size w W → Calls Tryz.prog 46 #[.agg (scC u b A n c k).toArray] W fun e w' => e = .returned (.bool (scoresB u b l)) ∧ Below W.heap.size W w') := fun W hW => refValidScores_any u b A c l k W hn (h.below hW)
  have HCP : Hid (∀ W, Below w.heap.size w W → Calls Tryz.prog 44 #[.slice Y ny d, .int .i64 (n : Int)] W fun e w' => e = .returned (.bool (copyB y n)) ∧ W = w') := fun W hW => refIsCopy_any Y d y n W hyl (hy.below hW) (by omega)
  obtain ⟨hyn, hcy⟩ := copyB_sym hc
  obtain rfl : ny = n := by omega
  obtain ⟨⟨o1, o2, o3, o4, o5, o6⟩, o7⟩ := scoresB_parts hv
  have hnn : (ny : Int) ≤ 64 := by omega
  have hbd := score_bds (y := y) ⟨o3, o4⟩ o7 (Nat.le_of_eq hn.symm)
  have hzz := slow_nonpos (y := y) o3 o7 (fun j hj => hcy j (by omega)) (Nat.le_of_eq hn.symm)
  have hall := sall_le ⟨o3, o4⟩ o7 (Nat.le_of_eq hn.symm) (by omega)
  have hpos := sall_pos ⟨o3, o4⟩ o7 (Nat.le_of_eq hn.symm)
  obtain ⟨L, hL⟩ : ∃ L : Nat, shigh b l y ny - slow b l y ny + 1 = (L : Int) := ⟨(shigh b l y ny - slow b l y ny + 1).toNat, by omega⟩
  have HRG : Hid (∀ W, Below w.heap.size w W → Calls Tryz.prog 79 #[.agg (scC u b A ny c k).toArray, .slice Y ny d] W fun e w' => e = .returned (.tuple #[.int .i64 (slow b l y ny), .int .i64 (shigh b l y ny)]) ∧ Below W.heap.size W w') := fun W hW => refRange_any u b A c l k Y d y W hn hyl (h.below hW) (hy.below hW) hv
  have HCT : Hid (∀ W, Below w.heap.size w W → Calls Tryz.prog 80 #[.agg (scC u b A ny c k).toArray, .slice Y ny d] W fun e w' => (∃ g, e = .returned (.slice (some ⟨g, 0, none⟩) L L) ∧ NA w' g L (fun s => scnt b l y ny (slow b l y ny + (s : Int)))) ∧ Below W.heap.size W w') := fun W hW => refCounts_any u b A c l k Y d y W hn hyl (h.below hW) (hy.below hW) hk hv (fun i hi => hcy i (by omega)) hL
  obtain ⟨lal, hlal⟩ : ∃ q, (digs (sall b l ny)).length = q := ⟨_, rfl⟩
  have HAL : Hid (∀ W, Calls Tryz.prog 83 #[.agg (scC u b A ny c k).toArray] W fun e w' => (∃ T t, e = .returned (.slice T lal t) ∧ NR w' T t (digs (sall b l ny))) ∧ Below W.heap.size W w') := fun W => by rw [← hlal]; exact refAll_any u b A c l k W hn hv
  obtain ⟨lo, hlo⟩ : ∃ q, slow b l y ny = q := ⟨_, rfl⟩
  obtain ⟨hi, hhi⟩ : ∃ q, shigh b l y ny = q := ⟨_, rfl⟩
  have HEND : Hid (prefZ b l y ny lo z L = srch b l y ny z) := by unfold Hid; rw [← hlo]; exact prefZ_end hL
  have HSL : Hid (∀ s, s ≤ L → prefZ b l y ny lo z s ≤ 32 ^ 64) := fun s hs => by
    refine Nat.le_trans (sumN_mono _ hs) ?_
    have h1 : prefZ b l y ny lo z L ≤ 32 ^ 64 := by rw [HEND.out]; exact Nat.le_trans (srch_le b l y ny z) hall
    exact h1
  rw [hlo, hhi] at HRG hL hbd hzz
  rw [hlo] at HCT
  obtain ⟨hbd1, hbd2⟩ := hbd
  obtain ⟨hzz1, hzz2⟩ := hzz
  have hlb : -2048 ≤ lo := by omega
  have hub : hi ≤ 2048 := by omega
  have hL2 : (L : Int) ≤ 4097 := by omega
  have HPL : Hid (∀ q S s ls T t lt W, q < L → z ≤ lo + (q : Int) → (digs (prefZ b l y ny lo z q)).length = ls → (digs (scnt b l y ny (lo + (q : Int)))).length = lt → NR W S s (digs (prefZ b l y ny lo z q)) → NR W T t (digs (scnt b l y ny (lo + (q : Int)))) → Calls Tryz.prog 81 #[.slice S ls s, .slice T lt t] W fun e w' => (∃ P p, e = .returned (.slice P (digs (prefZ b l y ny lo z (q + 1))).length p) ∧ NR w' P p (digs (prefZ b l y ny lo z (q + 1)))) ∧ Below W.heap.size W w') := fun q S s ls T t lt W hq hz g1 g2 g3 g4 => by
    have hs : prefZ b l y ny lo z (q + 1) = prefZ b l y ny lo z q + scnt b l y ny (lo + (q : Int)) := by unfold prefZ; rw [sumN_succ, if_pos hz]
    have hle := HSL.out (q + 1) hq
    rw [hs] at hle ⊢
    exact plusD_any (sm_allS hle) g1 g2 g3 g4
  obtain ⟨lr, hlr⟩ : ∃ lr, (digs (srch b l y ny z)).length = lr := ⟨_, rfl⟩
  have HLW : Hid (∀ R r T t W, NR W R r (digs (srch b l y ny z)) → NR W T t (digs (sall b l ny)) → Calls Tryz.prog 82 #[.slice R lr r, .slice T lal t] W fun e w' => ∃ v, e = .returned v ∧ FracNew W w' v (lowS (srch b l y ny z) (sall b l ny))) := fun R r T t W g1 g2 => lowestD_any (sm_allS (Nat.le_trans (srch_le b l y ny z) hall)) (sm_allS hall) (by omega) hlr hlal g1 g2
  obtain ⟨W0, hW0⟩ : ∃ W : World, W = (w.alloc (.cells (scC u b A ny c k).toArray 46)).alloc (.cells #[.slice none 0 0, .slice none 0 0] 27) := ⟨_, rfl⟩
  have b0 : Hid (Below w.heap.size w W0) := by unfold Hid; rw [hW0]; exact alloc2_bel _ _ _
  have x0 : Hid (Blk W0 w.heap.size 46 (scC u b A ny c k).toArray) := by unfold Hid; rw [hW0]; exact blk_b0 w _ _ _
  have y0 : Hid (Blk W0 (w.heap.size + 1) 27 #[.slice none 0 0, .slice none 0 0]) := by unfold Hid; rw [hW0]; exact blk_b1 w _ _ _
  have hz0 : Hid (W0.heap.size = w.heap.size + 2) := by unfold Hid; rw [hW0]; simp
  have HW0 := Lib.hid hW0
  have HIN0 : Hid ((Tryz.prog.info? 46).map (·.size) = some (scC u b A ny c k).toArray.size) := scC_info u b A ny c k hk
  have HV := Lib.hid hv
  have HCB := Lib.hid hc
  have HLR := Lib.hid hlr
  clear hn hyl h hy hk hv hc hyn hcy o1 o2 o3 o4 o5 o6 o7 hall hpos hlal hlo hhi hbd1 hbd2 hW0 hL hlr
  go_enter Tryz.func29, Tryz.ntmps29
  go_wp2_with (first
    | (rw [← HW0.out])
    | (refine wpList_load_row rfl 46 (.tmp 3) rfl w.heap.size rfl 46 (scC u b A ny c k).toArray (0, 0) _ (x0.out.below' (by assumption)) Tryz.underlying46 rfl HIN0.out ?_)
    | (refine wpList_load_row rfl 46 (.tmp 3) rfl w.heap.size rfl 46 (scC u b A ny c k).toArray (0, 0) _ x0.out Tryz.underlying46 rfl HIN0.out ?_)
    | (go_at_call 46; (with_reducible refine (HCK.out _ b0.out).mono ?_); rintro e w1 ⟨rfl, hb1⟩; rw [HV.out]; have c2 : w1.cell? ⟨w.heap.size, 2, none⟩ = some (.slice A ny c) := (x0.out.below' hb1).cell 2)
    | (go_at_call 44; (with_reducible refine (HCP.out _ (bel_on b0.out hb1)).mono ?_); rintro e w2 ⟨rfl, rfl⟩; rw [HCB.out])
    | (go_at_call 79; (with_reducible refine (HRG.out _ (bel_on b0.out hb1)).mono ?_); rintro e w3 ⟨rfl, hb3⟩; have hb13 := bel_on hb1 hb3)
    | (go_at_call 80; (with_reducible refine (HCT.out _ (bel_on b0.out hb13)).mono ?_); rintro e w4 ⟨⟨gc, rfl, hna⟩, hb4⟩; have D4 := Lib.hid (bel_on hb13 hb4); have NA4 := Lib.hid hna; clear hb4 hna))
  clear hb1 hb13 hb3 c2
  have HBW : Hid (∀ W, Below w4.heap.size w4 W → Below w.heap.size w W) := fun W hW => bel_on (bel_on b0.out D4.out) hW
  have HY4 : Hid (∀ W, Below w4.heap.size w4 W → Blk W (w.heap.size + 1) 27 #[.slice none 0 0, .slice none 0 0]) := fun W hW => (y0.out.below' D4.out).below' hW
  have HX4 : Hid (∀ W, Below w4.heap.size w4 W → Blk W w.heap.size 46 (scC u b A ny c k).toArray) := fun W hW => (x0.out.below' D4.out).below' hW
  go_loopw [11, 12] (fun vs vq wr => ∃ (q ls s : Nat) (S : Option Addr), q ≤ L ∧ vq = .int .i64 (q : Int) ∧ vs = .slice S ls s ∧ Hid ((digs (prefZ b l y ny lo z q)).length = ls) ∧ Hid (NR wr S s (digs (prefZ b l y ny lo z q))) ∧ Below w4.heap.size w4 wr) (fun _ vq _ => L - (intOf vq).toNat)
  case atStart => exact ⟨0, 0, 0, none, by omega, rfl, rfl, rfl, NR.nil _, Below.refl _ _⟩
  case round =>
    obtain ⟨q, ls, s, S, hq, rfl, rfl, HLS, HNS, hbel⟩ := hrel
    by_cases hqL : q < L
    · have hqi : (q : Int) < L := by omega
      have hq0 : (0 : Int) ≤ q := by omega
      obtain ⟨T, t, hct, hnt⟩ := (NA4.out.below hbel).get (i := q) hqL
      obtain ⟨lt, hlt⟩ : ∃ lt, (digs (scnt b l y ny (lo + (q : Int)))).length = lt := ⟨_, rfl⟩
      rw [hlt] at hct
      by_cases hz : z ≤ lo + (q : Int)
      · obtain ⟨lp, hlp⟩ : ∃ lp, (digs (prefZ b l y ny lo z (q + 1))).length = lp := ⟨_, rfl⟩
        have HPK : Hid (∀ W, Below wr.heap.size wr W → Calls Tryz.prog 81 #[.slice S ls s, .slice T lt t] W fun e w' => (∃ P p, e = .returned (.slice P lp p) ∧ NR w' P p (digs (prefZ b l y ny lo z (q + 1)))) ∧ Below W.heap.size W w') := fun W hW => by rw [← hlp]; exact HPL.out q S s ls T t lt W hqL hz HLS.out hlt (HNS.out.below hW) (hnt.below hW)
        have HLP := Lib.hid hlp
        clear hnt hlt hlp hqL
        go_wp2_with (first
          | (go_at_call 81; (with_reducible refine (HPK.out _ (Below.refl _ _)).mono ?_); rintro e w5 ⟨⟨S5, s5, rfl, hs5⟩, hb5⟩; have D5 := Lib.hid (bel_on hbel hb5); have R5 := Lib.hid hs5; clear hs5 hb5))
        go_roundw
        case rel => exact ⟨q + 1, lp, s5, S5, by omega, by go_num, rfl, HLP.out, R5.out, D5.out⟩
        case measure => simp [intOf]; omega
      · have hE : Hid (prefZ b l y ny lo z (q + 1) = prefZ b l y ny lo z q) := by unfold Hid prefZ; rw [sumN_succ, if_neg hz]; rfl
        clear hnt hlt hqL
        go_wp2_with fail
        go_roundw
        case rel => exact ⟨q + 1, ls, s, S, by omega, by go_num, rfl, by unfold Hid; rw [hE.out]; exact HLS.out, by unfold Hid; rw [hE.out]; exact HNS.out, hbel⟩
        case measure => simp [intOf]; omega
    · obtain rfl : q = L := by omega
      have hx5 : ¬ ((q : Int) < (q : Int)) := by omega
      have hls : ls = lr := by rw [← HLS.out, ← HLR.out, HEND.out]
      subst hls
      have R8 : Hid (NR wr S s (digs (srch b l y ny z))) := by unfold Hid; rw [← HEND.out]; exact HNS.out
      have X8 := Lib.hid (HX4.out _ hbel)
      go_wp2_with (first
        | (refine wpList_load_row rfl 46 (.tmp 3) rfl w.heap.size rfl 46 (scC u b A ny c k).toArray (0, 0) _ X8.out Tryz.underlying46 rfl HIN0.out ?_)
        | (go_at_call 83; (with_reducible refine (HAL.out _).mono ?_); rintro e w8 ⟨⟨TA, ta, rfl, hta⟩, hb8⟩; have D8 := Lib.hid (bel_on hbel hb8); have TA8 := Lib.hid hta; have R9 := Lib.hid (R8.out.below hb8); clear hta hb8))
      go_at_call 82
      refine (HLW.out _ _ _ _ _ R9.out TA8.out).mono ?_
      rintro e w9 ⟨v, rfl, hf⟩
      clear HLW
      obtain ⟨Xa, xc, Yf, yd, rfl, hXX, hYY, hap, hbf⟩ := hf
      have DF := bel_on D8.out hbf
      have QF := HY4.out _ DF
      have k0 := QF.cell 0
      have k1 := QF.cell 1
      have f0 := QF.frozen 0
      have f1 := QF.frozen 1
      have HBF := Lib.hid (HBW.out _ DF)
      have HLE : Hid (w.heap.size + 2 ≤ w8.heap.size) := by
        have a1 := hz0.out
        have a2 := D4.out.size
        have a3 := D8.out.size
        unfold Hid; omega
      have HFX := Lib.hid (hXX.mono HLE.out)
      have HFY := Lib.hid (hYY.mono HLE.out)
      have HAP := Lib.hid hap
      have RB := (QF.set_ 0 (.slice Xa (lowS (srch b l y ny z) (sall b l ny)).1.length xc)).set_ 1 (.slice Yf (lowS (srch b l y ny z) (sall b l ny)).2.length yd)
      have z0 := RB.cell 0
      have z1 := RB.cell 1
      clear QF hXX hYY hap hbf DF RB
      generalize lowS (srch b l y ny z) (sall b l ny) = rr at *
      obtain ⟨r1, r2⟩ := rr
      dsimp only at *
      go_wp2_with fail
      exact bodyPost_ret (v := .tuple #[.agg #[.slice Xa r1.length xc, .slice Yf r2.length yd], .int .i64 0]) (by simp [results, Tryz.f29, go_sem, z0, z1, k0, k1, f0, f1]) rfl (Frac2.mk' HS.out (fracNew_store HFX.out HFY.out HAP.out (Nat.le_succ _) HBF.out _ _))
theorem refChance_any (u b : Int) (A : Option Addr) (c : Nat) (l : List Int) (k : List UInt8) (Y : Option Addr) (d : Nat) (y : List UInt8) (z : Int) (w : World) {n ny : Nat} (hn : l.length = n) (hyl : y.length = ny) (h : IR w A c l) (hy : BR w Y d y) (hk : k.length = 16) :
    Calls Tryz.prog 29 #[.agg (scC u b A n c k).toArray, .slice Y ny d, .int .i64 z] w fun e w' => Frac2 w w' e (chanceS u b l y z) := by
  cases hv : scoresB u b l
  · exact refChance_bad u b A c l k Y d y z w hn hyl h hy hk hv
  · cases hc : copyB y n
    · exact refChance_copy u b A c l k Y d y z w hn hyl h hy hk hv hc
    · exact refChance_good u b A c l k Y d y z w hn hyl h hy hk hv hc
set_option maxHeartbeats 2000000 in
set_option maxRecDepth 100000 in
theorem refBound_bad (u b : Int) (A : Option Addr) (c : Nat) (l : List Int) (k : List UInt8) (Y : Option Addr) (d : Nat) (y : List UInt8) (X : Option Addr) (cx : Nat) (x : List Nat) (Z : Option Addr) (cz : Nat) (z : List Nat) (w : World) {n ny lx lz : Nat} (hn : l.length = n) (hyl : y.length = ny) (hlx : x.length = lx) (hlz : z.length = lz) (h : IR w A c l) (hy : BR w Y d y) (hk : k.length = 16) (hx : NR w X cx x) (hz : NR w Z cz z) (hv : scoresB u b l = false) :
    Calls Tryz.prog 32 #[.agg (scC u b A n c k).toArray, .slice Y ny d, .agg #[.slice X lx cx, .slice Z lz cz]] w fun e w' => e = .returned (.tuple #[.int .i64 (boundS u b l y x z).1, .int .i64 (boundS u b l y x z).2]) ∧ Below w.heap.size w w' := by
  have HS : Hid (boundS u b l y x z = (0, 70)) := by unfold Hid boundS; rw [ckSC_bad hv]; rfl
  have hlen : (n : Int) ≤ 140737488351232 := by have := h.len; omega
  have HCK : Hid (∀ W, Below w.heap.size w W → Calls Tryz.prog 46 #[.agg (scC u b A n c k).toArray] W fun e w' => e = .returned (.bool (scoresB u b l)) ∧ Below W.heap.size W w') := fun W hW => refValidScores_any u b A c l k W hn (h.below hW)
  have HCP : Hid (∀ W, Below w.heap.size w W → Calls Tryz.prog 44 #[.slice Y ny d, .int .i64 (n : Int)] W fun e w' => e = .returned (.bool (copyB y n)) ∧ W = w') := fun W hW => refIsCopy_any Y d y n W hyl (hy.below hW) (by omega)
  obtain ⟨W0, hW0⟩ : ∃ W : World, W = (w.alloc (.cells (scC u b A n c k).toArray 46)).alloc (.cells #[.slice X lx cx, .slice Z lz cz] 27) := ⟨_, rfl⟩
  have b0 : Hid (Below w.heap.size w W0) := by unfold Hid; rw [hW0]; exact alloc2_bel _ _ _
  have x0 : Hid (Blk W0 w.heap.size 46 (scC u b A n c k).toArray) := by unfold Hid; rw [hW0]; exact blk_b0 w _ _ _
  have y0 : Hid (Blk W0 (w.heap.size + 1) 27 #[.slice X lx cx, .slice Z lz cz]) := by unfold Hid; rw [hW0]; exact blk_b1 w _ _ _
  have hz0 : Hid (W0.heap.size = w.heap.size + 2) := by unfold Hid; rw [hW0]; simp
  have HW0 := Lib.hid hW0
  have HIN0 : Hid ((Tryz.prog.info? 46).map (·.size) = some (scC u b A n c k).toArray.size) := scC_info u b A n c k hk
  have HV := Lib.hid hv
  clear hn hyl h hy hk hW0 hv hx hz hlx hlz
  go_enter Tryz.func32, Tryz.ntmps32
  go_wp2_with (first
    | (rw [← HW0.out])
    | (refine wpList_load_row rfl 46 (.tmp 3) rfl w.heap.size rfl 46 (scC u b A n c k).toArray (0, 0) _ x0.out Tryz.underlying46 rfl HIN0.out ?_)
    | (go_at_call 46; (with_reducible refine (HCK.out _ b0.out).mono ?_); rintro e w1 ⟨rfl, hb1⟩; rw [HV.out]; have X1 := Lib.hid (x0.out.below' hb1); have Y1 := Lib.hid (y0.out.below' hb1); have D1 := Lib.hid hb1; have c2 : w1.cell? ⟨w.heap.size, 2, none⟩ = some (.slice A n c) := X1.out.cell 2; clear hb1))
  go_ret2
  exact ⟨by rw [HS.out]; rfl, bel_on b0.out D1.out⟩
set_option maxHeartbeats 2000000 in
set_option maxRecDepth 100000 in
theorem refBound_copy (u b : Int) (A : Option Addr) (c : Nat) (l : List Int) (k : List UInt8) (Y : Option Addr) (d : Nat) (y : List UInt8) (X : Option Addr) (cx : Nat) (x : List Nat) (Z : Option Addr) (cz : Nat) (z : List Nat) (w : World) {n ny lx lz : Nat} (hn : l.length = n) (hyl : y.length = ny) (hlx : x.length = lx) (hlz : z.length = lz) (h : IR w A c l) (hy : BR w Y d y) (hk : k.length = 16) (hx : NR w X cx x) (hz : NR w Z cz z) (hv : scoresB u b l = true) (hc : copyB y n = false) :
    Calls Tryz.prog 32 #[.agg (scC u b A n c k).toArray, .slice Y ny d, .agg #[.slice X lx cx, .slice Z lz cz]] w fun e w' => e = .returned (.tuple #[.int .i64 (boundS u b l y x z).1, .int .i64 (boundS u b l y x z).2]) ∧ Below w.heap.size w w' := by
  have HS : Hid (boundS u b l y x z = (0, 71)) := by unfold Hid boundS; rw [ckSC_copy hv (by rw [hn]; exact hc)]; rfl
  have hlen : (n : Int) ≤ 140737488351232 := by have := h.len; omega
  have HCK : Hid (∀ W, Below w.heap.size w W → Calls Tryz.prog 46 #[.agg (scC u b A n c k).toArray] W fun e w' => e = .returned (.bool (scoresB u b l)) ∧ Below W.heap.size W w') := fun W hW => refValidScores_any u b A c l k W hn (h.below hW)
  have HCP : Hid (∀ W, Below w.heap.size w W → Calls Tryz.prog 44 #[.slice Y ny d, .int .i64 (n : Int)] W fun e w' => e = .returned (.bool (copyB y n)) ∧ W = w') := fun W hW => refIsCopy_any Y d y n W hyl (hy.below hW) (by omega)
  obtain ⟨W0, hW0⟩ : ∃ W : World, W = (w.alloc (.cells (scC u b A n c k).toArray 46)).alloc (.cells #[.slice X lx cx, .slice Z lz cz] 27) := ⟨_, rfl⟩
  have b0 : Hid (Below w.heap.size w W0) := by unfold Hid; rw [hW0]; exact alloc2_bel _ _ _
  have x0 : Hid (Blk W0 w.heap.size 46 (scC u b A n c k).toArray) := by unfold Hid; rw [hW0]; exact blk_b0 w _ _ _
  have y0 : Hid (Blk W0 (w.heap.size + 1) 27 #[.slice X lx cx, .slice Z lz cz]) := by unfold Hid; rw [hW0]; exact blk_b1 w _ _ _
  have hz0 : Hid (W0.heap.size = w.heap.size + 2) := by unfold Hid; rw [hW0]; simp
  have HW0 := Lib.hid hW0
  have HIN0 : Hid ((Tryz.prog.info? 46).map (·.size) = some (scC u b A n c k).toArray.size) := scC_info u b A n c k hk
  have HV := Lib.hid hv
  have HCB := Lib.hid hc
  clear hn hyl h hy hk hW0 hv hc hx hz hlx hlz
  go_enter Tryz.func32, Tryz.ntmps32
  go_wp2_with (first
    | (rw [← HW0.out])
    | (refine wpList_load_row rfl 46 (.tmp 3) rfl w.heap.size rfl 46 (scC u b A n c k).toArray (0, 0) _ x0.out Tryz.underlying46 rfl HIN0.out ?_)
    | (go_at_call 46; (with_reducible refine (HCK.out _ b0.out).mono ?_); rintro e w1 ⟨rfl, hb1⟩; rw [HV.out]; have X1 := Lib.hid (x0.out.below' hb1); have Y1 := Lib.hid (y0.out.below' hb1); have D1 := Lib.hid hb1; have c2 : w1.cell? ⟨w.heap.size, 2, none⟩ = some (.slice A n c) := X1.out.cell 2; clear hb1)
    | (go_at_call 44; (with_reducible refine (HCP.out _ (bel_on b0.out D1.out)).mono ?_); rintro e w2 ⟨rfl, rfl⟩; rw [HCB.out]))
  go_ret2
  exact ⟨by rw [HS.out]; rfl, bel_on b0.out D1.out⟩
set_option maxHeartbeats 2000000 in
set_option maxRecDepth 100000 in
theorem refBound_lim (u b : Int) (A : Option Addr) (c : Nat) (l : List Int) (k : List UInt8) (Y : Option Addr) (d : Nat) (y : List UInt8) (X : Option Addr) (cx : Nat) (x : List Nat) (Z : Option Addr) (cz : Nat) (z : List Nat) (w : World) {n ny lx lz : Nat} (hn : l.length = n) (hyl : y.length = ny) (hlx : x.length = lx) (hlz : z.length = lz) (h : IR w A c l) (hy : BR w Y d y) (hk : k.length = 16) (hx : NR w X cx x) (hz : NR w Z cz z) (hv : scoresB u b l = true) (hc : copyB y n = true) (hl : limB x z = false) :
    Calls Tryz.prog 32 #[.agg (scC u b A n c k).toArray, .slice Y ny d, .agg #[.slice X lx cx, .slice Z lz cz]] w fun e w' => e = .returned (.tuple #[.int .i64 (boundS u b l y x z).1, .int .i64 (boundS u b l y x z).2]) ∧ Below w.heap.size w w' := by
  have HS : Hid (boundS u b l y x z = (0, 2)) := by unfold Hid boundS; rw [ckSC_ok hv (by rw [hn]; exact hc), if_pos rfl, hl]; rfl
  have hlen : (n : Int) ≤ 140737488351232 := by have := h.len; omega
  have HCK : Hid (∀ W, Below w.heap.size w W → Calls Tryz.prog 46 #[.agg (scC u b A n c k).toArray] W fun e w' => e = .returned (.bool (scoresB u b l)) ∧ Below W.heap.size W w') := fun W hW => refValidScores_any u b A c l k W hn (h.below hW)
  have HCP : Hid (∀ W, Below w.heap.size w W → Calls Tryz.prog 44 #[.slice Y ny d, .int .i64 (n : Int)] W fun e w' => e = .returned (.bool (copyB y n)) ∧ W = w') := fun W hW => refIsCopy_any Y d y n W hyl (hy.below hW) (by omega)
  have HLI : Hid (∀ W, Below w.heap.size w W → Calls Tryz.prog 56 #[.agg #[.slice X lx cx, .slice Z lz cz]] W fun e w' => e = .returned (.bool (limB x z)) ∧ Below W.heap.size W w') := fun W hW => refIsLimit_any X cx x Z cz z W hlx hlz (hx.below hW) (hz.below hW)
  obtain ⟨W0, hW0⟩ : ∃ W : World, W = (w.alloc (.cells (scC u b A n c k).toArray 46)).alloc (.cells #[.slice X lx cx, .slice Z lz cz] 27) := ⟨_, rfl⟩
  have b0 : Hid (Below w.heap.size w W0) := by unfold Hid; rw [hW0]; exact alloc2_bel _ _ _
  have x0 : Hid (Blk W0 w.heap.size 46 (scC u b A n c k).toArray) := by unfold Hid; rw [hW0]; exact blk_b0 w _ _ _
  have y0 : Hid (Blk W0 (w.heap.size + 1) 27 #[.slice X lx cx, .slice Z lz cz]) := by unfold Hid; rw [hW0]; exact blk_b1 w _ _ _
  have hz0 : Hid (W0.heap.size = w.heap.size + 2) := by unfold Hid; rw [hW0]; simp
  have HW0 := Lib.hid hW0
  have HIN0 : Hid ((Tryz.prog.info? 46).map (·.size) = some (scC u b A n c k).toArray.size) := scC_info u b A n c k hk
  have HV := Lib.hid hv
  have HCB := Lib.hid hc
  rw [hl] at HLI
  have HBO : Hid (∀ W, Below w.heap.size w W → limB x z = true → Calls Tryz.prog 86 #[.agg (scC u b A n c k).toArray, .slice Y ny d, .agg #[.slice X lx cx, .slice Z lz cz]] W fun e w' => e = .returned (.int .i64 (sbnd b l y n (val x) (val z))) ∧ Below W.heap.size W w') := fun W hW hl => refBoundOf_any u b A c l k Y d y X cx x Z cz z W hn hyl hlx hlz (h.below hW) (hy.below hW) hk (hx.below hW) (hz.below hW) hl hv hc
  have HLB := Lib.hid hl
  clear hn hyl h hy hk hW0 hv hc hl hx hz hlx hlz
  go_enter Tryz.func32, Tryz.ntmps32
  go_wp2_with (first
    | (rw [← HW0.out])
    | (refine wpList_load_row rfl 46 (.tmp 3) rfl w.heap.size rfl 46 (scC u b A n c k).toArray (0, 0) _ x0.out Tryz.underlying46 rfl HIN0.out ?_)
    | (go_at_call 46; (with_reducible refine (HCK.out _ b0.out).mono ?_); rintro e w1 ⟨rfl, hb1⟩; rw [HV.out]; have X1 := Lib.hid (x0.out.below' hb1); have Y1 := Lib.hid (y0.out.below' hb1); have D1 := Lib.hid hb1; have c2 : w1.cell? ⟨w.heap.size, 2, none⟩ = some (.slice A n c) := X1.out.cell 2; clear hb1)
    | (go_at_call 44; (with_reducible refine (HCP.out _ (bel_on b0.out D1.out)).mono ?_); rintro e w2 ⟨rfl, rfl⟩; rw [HCB.out])
    | (refine wpList_load_row rfl 27 (.tmp 5) rfl (w.heap.size + 1) rfl 27 #[.slice X lx cx, .slice Z lz cz] (0, 0) _ Y1.out Tryz.underlying27 rfl (by kernel_rfl) ?_)
    | (go_at_call 56; (with_reducible refine (HLI.out _ (bel_on b0.out D1.out)).mono ?_); rintro e w3 ⟨rfl, hb3⟩; have D3 := Lib.hid (bel_on D1.out hb3); have X3 := Lib.hid (X1.out.below' hb3); have Y3 := Lib.hid (Y1.out.below' hb3); clear hb3))
  go_ret2
  exact ⟨by rw [HS.out]; rfl, bel_on b0.out D3.out⟩
set_option maxHeartbeats 2000000 in
set_option maxRecDepth 100000 in
theorem refBound_good (u b : Int) (A : Option Addr) (c : Nat) (l : List Int) (k : List UInt8) (Y : Option Addr) (d : Nat) (y : List UInt8) (X : Option Addr) (cx : Nat) (x : List Nat) (Z : Option Addr) (cz : Nat) (z : List Nat) (w : World) {n ny lx lz : Nat} (hn : l.length = n) (hyl : y.length = ny) (hlx : x.length = lx) (hlz : z.length = lz) (h : IR w A c l) (hy : BR w Y d y) (hk : k.length = 16) (hx : NR w X cx x) (hz : NR w Z cz z) (hv : scoresB u b l = true) (hc : copyB y n = true) (hl : limB x z = true) :
    Calls Tryz.prog 32 #[.agg (scC u b A n c k).toArray, .slice Y ny d, .agg #[.slice X lx cx, .slice Z lz cz]] w fun e w' => e = .returned (.tuple #[.int .i64 (boundS u b l y x z).1, .int .i64 (boundS u b l y x z).2]) ∧ Below w.heap.size w w' := by
  have HS : Hid (boundS u b l y x z = (sbnd b l y n (val x) (val z), 0)) := by unfold Hid boundS; rw [ckSC_ok hv (by rw [hn]; exact hc), if_pos rfl, hl, hn]; rfl
  have hlen : (n : Int) ≤ 140737488351232 := by have := h.len; omega
  have HCK : Hid (∀ W, Below w.heap.size w W → Calls Tryz.prog 46 #[.agg (scC u b A n c k).toArray] W fun e w' => e = .returned (.bool (scoresB u b l)) ∧ Below W.heap.size W w') := fun W hW => refValidScores_any u b A c l k W hn (h.below hW)
  have HCP : Hid (∀ W, Below w.heap.size w W → Calls Tryz.prog 44 #[.slice Y ny d, .int .i64 (n : Int)] W fun e w' => e = .returned (.bool (copyB y n)) ∧ W = w') := fun W hW => refIsCopy_any Y d y n W hyl (hy.below hW) (by omega)
  have HLI : Hid (∀ W, Below w.heap.size w W → Calls Tryz.prog 56 #[.agg #[.slice X lx cx, .slice Z lz cz]] W fun e w' => e = .returned (.bool (limB x z)) ∧ Below W.heap.size W w') := fun W hW => refIsLimit_any X cx x Z cz z W hlx hlz (hx.below hW) (hz.below hW)
  obtain ⟨W0, hW0⟩ : ∃ W : World, W = (w.alloc (.cells (scC u b A n c k).toArray 46)).alloc (.cells #[.slice X lx cx, .slice Z lz cz] 27) := ⟨_, rfl⟩
  have b0 : Hid (Below w.heap.size w W0) := by unfold Hid; rw [hW0]; exact alloc2_bel _ _ _
  have x0 : Hid (Blk W0 w.heap.size 46 (scC u b A n c k).toArray) := by unfold Hid; rw [hW0]; exact blk_b0 w _ _ _
  have y0 : Hid (Blk W0 (w.heap.size + 1) 27 #[.slice X lx cx, .slice Z lz cz]) := by unfold Hid; rw [hW0]; exact blk_b1 w _ _ _
  have hz0 : Hid (W0.heap.size = w.heap.size + 2) := by unfold Hid; rw [hW0]; simp
  have HW0 := Lib.hid hW0
  have HIN0 : Hid ((Tryz.prog.info? 46).map (·.size) = some (scC u b A n c k).toArray.size) := scC_info u b A n c k hk
  have HV := Lib.hid hv
  have HCB := Lib.hid hc
  rw [hl] at HLI
  have HBO : Hid (∀ W, Below w.heap.size w W → limB x z = true → Calls Tryz.prog 86 #[.agg (scC u b A n c k).toArray, .slice Y ny d, .agg #[.slice X lx cx, .slice Z lz cz]] W fun e w' => e = .returned (.int .i64 (sbnd b l y n (val x) (val z))) ∧ Below W.heap.size W w') := fun W hW hl => refBoundOf_any u b A c l k Y d y X cx x Z cz z W hn hyl hlx hlz (h.below hW) (hy.below hW) hk (hx.below hW) (hz.below hW) hl hv hc
  have HLB := Lib.hid hl
  clear hn hyl h hy hk hW0 hv hc hl hx hz hlx hlz
  go_enter Tryz.func32, Tryz.ntmps32
  go_wp2_with (first
    | (rw [← HW0.out])
    | (refine wpList_load_row rfl 46 (.tmp 3) rfl w.heap.size rfl 46 (scC u b A n c k).toArray (0, 0) _ x0.out Tryz.underlying46 rfl HIN0.out ?_)
    | (go_at_call 46; (with_reducible refine (HCK.out _ b0.out).mono ?_); rintro e w1 ⟨rfl, hb1⟩; rw [HV.out]; have X1 := Lib.hid (x0.out.below' hb1); have Y1 := Lib.hid (y0.out.below' hb1); have D1 := Lib.hid hb1; have c2 : w1.cell? ⟨w.heap.size, 2, none⟩ = some (.slice A n c) := X1.out.cell 2; clear hb1)
    | (go_at_call 44; (with_reducible refine (HCP.out _ (bel_on b0.out D1.out)).mono ?_); rintro e w2 ⟨rfl, rfl⟩; rw [HCB.out])
    | (refine wpList_load_row rfl 27 (.tmp 5) rfl (w.heap.size + 1) rfl 27 #[.slice X lx cx, .slice Z lz cz] (0, 0) _ Y1.out Tryz.underlying27 rfl (by kernel_rfl) ?_)
    | (go_at_call 56; (with_reducible refine (HLI.out _ (bel_on b0.out D1.out)).mono ?_); rintro e w3 ⟨rfl, hb3⟩; have D3 := Lib.hid (bel_on D1.out hb3); have X3 := Lib.hid (X1.out.below' hb3); have Y3 := Lib.hid (Y1.out.below' hb3); clear hb3)
    | (refine wpList_load_row rfl 46 (.tmp 3) rfl w.heap.size rfl 46 (scC u b A n c k).toArray (0, 0) _ X3.out Tryz.underlying46 rfl HIN0.out ?_)
    | (refine wpList_load_row rfl 27 (.tmp 5) rfl (w.heap.size + 1) rfl 27 #[.slice X lx cx, .slice Z lz cz] (0, 0) _ Y3.out Tryz.underlying27 rfl (by kernel_rfl) ?_)
    | (go_at_call 86; (with_reducible refine (HBO.out _ (bel_on b0.out D3.out) HLB.out).mono ?_); rintro e w4 ⟨rfl, hb4⟩; have D4 := Lib.hid (bel_on D3.out hb4); clear hb4))
  go_ret2
  exact ⟨by rw [HS.out]; rfl, bel_on b0.out D4.out⟩
theorem refBound_any (u b : Int) (A : Option Addr) (c : Nat) (l : List Int) (k : List UInt8) (Y : Option Addr) (d : Nat) (y : List UInt8) (X : Option Addr) (cx : Nat) (x : List Nat) (Z : Option Addr) (cz : Nat) (z : List Nat) (w : World) {n ny lx lz : Nat} (hn : l.length = n) (hyl : y.length = ny) (hlx : x.length = lx) (hlz : z.length = lz) (h : IR w A c l) (hy : BR w Y d y) (hk : k.length = 16) (hx : NR w X cx x) (hz : NR w Z cz z) :
    Calls Tryz.prog 32 #[.agg (scC u b A n c k).toArray, .slice Y ny d, .agg #[.slice X lx cx, .slice Z lz cz]] w fun e w' => e = .returned (.tuple #[.int .i64 (boundS u b l y x z).1, .int .i64 (boundS u b l y x z).2]) ∧ Below w.heap.size w w' := by
  cases hv : scoresB u b l
  · exact refBound_bad u b A c l k Y d y X cx x Z cz z w hn hyl hlx hlz h hy hk hx hz hv
  · cases hc : copyB y n
    · exact refBound_copy u b A c l k Y d y X cx x Z cz z w hn hyl hlx hlz h hy hk hx hz hv hc
    · cases hl : limB x z
      · exact refBound_lim u b A c l k Y d y X cx x Z cz z w hn hyl hlx hlz h hy hk hx hz hv hc hl
      · exact refBound_good u b A c l k Y d y X cx x Z cz z w hn hyl hlx hlz h hy hk hx hz hv hc hl
set_option maxHeartbeats 4000000 in
set_option maxRecDepth 100000 in
theorem refTraceScores_own (u b : Int) (A : Option Addr) (c : Nat) (l : List Int) (k : List UInt8) (Y : Option Addr) (d : Nat) (y : List UInt8) (X : Option Addr) (cx : Nat) (x : List Nat) (Z : Option Addr) (cz : Nat) (z : List Nat) (w : World) {n ny lx lz : Nat} (hn : l.length = n) (hyl : y.length = ny) (hlx : x.length = lx) (hlz : z.length = lz) (h : IR w A c l) (hy : BR w Y d y) (hk : k.length = 16) (hx : NR w X cx x) (hz : NR w Z cz z) :
    Calls Tryz.prog 34 #[.agg (scC u b A n c k).toArray, .slice Y ny d, .agg #[.slice X lx cx, .slice Z lz cz]] w fun e w' => IntsOwn w.heap.size (nmsC u b l k y x z) e w' ∧ Below w.heap.size w w' := by
  have mixed : Tryz.prog.follows Departure.mixedOrders = true := by kernel_rfl
  obtain ⟨W0, hW0⟩ : ∃ W : World, W = (w.alloc (.cells (scC u b A n c k).toArray 46)).alloc (.cells #[.slice X lx cx, .slice Z lz cz] 27) := ⟨_, rfl⟩
  have b0 : Hid (Below w.heap.size w W0) := by unfold Hid; rw [hW0]; exact alloc2_bel _ _ _
  have x0 : Hid (Blk W0 w.heap.size 46 (scC u b A n c k).toArray) := by unfold Hid; rw [hW0]; exact blk_b0 w _ _ _
  have y0 : Hid (Blk W0 (w.heap.size + 1) 27 #[.slice X lx cx, .slice Z lz cz]) := by unfold Hid; rw [hW0]; exact blk_b1 w _ _ _
  have hz0 : Hid (W0.heap.size = w.heap.size + 2) := by unfold Hid; rw [hW0]; simp
  have HW0 := Lib.hid hW0
  have HIN := Lib.hid (scC_info u b A n c k hk)
  have HINL : Hid ((Tryz.prog.info? 46).map (·.size) = some (scC u b A n c k).length) := by unfold Hid; simpa using scC_info u b A n c k hk
  have HBD : Hid (∀ W, Below w.heap.size w W → Calls Tryz.prog 32 #[.agg (scC u b A n c k).toArray, .slice Y ny d, .agg #[.slice X lx cx, .slice Z lz cz]] W fun e w' => e = .returned (.tuple #[.int .i64 (boundS u b l y x z).1, .int .i64 (boundS u b l y x z).2]) ∧ Below W.heap.size W w') := fun W hW => refBound_any u b A c l k Y d y X cx x Z cz z W hn hyl hlx hlz (h.below hW) (hy.below hW) hk (hx.below hW) (hz.below hW)
  by_cases he : (boundS u b l y x z).2 = 0
  · obtain ⟨hsc, hli⟩ := boundS_ok he
    obtain ⟨hv, hc⟩ := ckSC_zero hsc
    obtain ⟨hyn, hcy⟩ := copyB_sym hc
    obtain ⟨⟨o1, o2, o3, o4, o5, o6⟩, o7⟩ := scoresB_parts hv
    obtain ⟨un, hun⟩ : ∃ un : Nat, u = (un : Int) := ⟨u.toNat, by omega⟩
    have HS : Hid (nmsC u b l k y x z = (namesF (namedS b l k y (boundS u b l y x z).1) un, 0)) := by unfold Hid nmsC; rw [if_pos he, hun, Int.toNat_natCast]
    rw [he] at HBD
    obtain ⟨zb, hzb⟩ : ∃ zb, (boundS u b l y x z).1 = zb := ⟨_, rfl⟩
    rw [hzb] at HBD HS
    obtain ⟨P, hP⟩ : ∃ P, namedS b l k y zb = P := ⟨_, rfl⟩
    rw [hP] at HS
    obtain rfl : ny = n := by omega
    have HPP : Hid (∀ i : Nat, decide (zb ≤ sumS b l (scoreWordS k b l (i : Int)) y ny) = P i) := fun i => by rw [← hP, ← hn]; rfl
    have HSW0 : Hid (∀ i : Nat, (i : Int) ≤ 64 → ∀ W, Below w.heap.size w W → Calls Tryz.prog 90 #[.agg (scC u b A ny c k).toArray, .int .i64 (i : Int)] W fun e w' => ∃ A' c', e = .returned (.slice A' ny c') ∧ BR w' A' c' (scoreWordS k b l (i : Int)) ∧ Below W.heap.size W w') := fun i hi W hW => (refScoresWord_any u b A c l k (i : Int) W hn (h.below hW) hk hv (by omega) hi).mono fun e w' ⟨A', c', e1, e2, e3⟩ => ⟨A', c', e1, e2.br (by rw [scoreWordS_length, hn]; omega), e3⟩
    have HSC0 : Hid (∀ (i : Nat) V cv W, Below w.heap.size w W → BR W V cv (scoreWordS k b l (i : Int)) → Calls Tryz.prog 89 #[.agg (scC u b A ny c k).toArray, .slice V ny cv, .slice Y ny d] W fun e w' => e = .returned (.int .i64 (sumS b l (scoreWordS k b l (i : Int)) y ny)) ∧ Below W.heap.size W w') := fun i V cv W hW hV => refScoreOf_any u b A c l k V cv _ Y d y W hn (by rw [scoreWordS_length, hn]) hyl (h.below hW) hV (hy.below hW) hv
    have hu1 : (1 : Int) ≤ un := by omega
    have hu2 : (un : Int) ≤ 64 := by omega
    clear hn hyl h hy hk hW0 hx hz hlx hlz he hsc hli hv hc hyn hcy o1 o2 o3 o4 o5 o6 o7 hP hzb
    have HUN := Lib.hid hun
    clear hun
    go_enter Tryz.func34, Tryz.ntmps34
    go_wp2_with (first
      | (rw [← HW0.out])
      | (refine wpList_load_row rfl 46 (.tmp 3) rfl w.heap.size rfl 46 (scC u b A ny c k).toArray (0, 0) _ x0.out Tryz.underlying46 rfl HIN.out ?_)
      | (refine wpList_load_row rfl 27 (.tmp 5) rfl (w.heap.size + 1) rfl 27 #[.slice X lx cx, .slice Z lz cz] (0, 0) _ y0.out Tryz.underlying27 rfl (by kernel_rfl) ?_)
      | (go_at_call 32; (with_reducible refine (HBD.out _ b0.out).mono ?_); rintro e w1 ⟨rfl, hb1⟩; have D1 := Lib.hid hb1; have X1 := Lib.hid (x0.out.below' hb1); have c0 : w1.cell? ⟨w.heap.size, 0, none⟩ = some (.int .i64 (un : Int)) := (by rw [← HUN.out]; exact X1.out.cell 0); clear hb1))
    clear c0
    have HBW : Hid (∀ W, Below w1.heap.size w1 W → Below w.heap.size w W) := fun W hW => bel_on (bel_on b0.out D1.out) hW
    have HSX : Hid (∀ W, Below w1.heap.size w1 W → W.rangeAt w.heap.size 0 (scC u b A ny c k)) := fun W hW => (X1.out.below' hW).range
    have HSW : Hid (∀ i : Nat, (i : Int) ≤ 64 → ∀ W, Below w1.heap.size w1 W → Calls Tryz.prog 90 #[.agg (scC u b A ny c k).toArray, .int .i64 (i : Int)] W fun e w' => ∃ A' c', e = .returned (.slice A' ny c') ∧ BR w' A' c' (scoreWordS k b l (i : Int)) ∧ Below W.heap.size W w') := fun i hi W hW => HSW0.out i hi W (HBW.out W hW)
    have HSC : Hid (∀ (i : Nat) V cv W, Below w1.heap.size w1 W → BR W V cv (scoreWordS k b l (i : Int)) → Calls Tryz.prog 89 #[.agg (scC u b A ny c k).toArray, .slice V ny cv, .slice Y ny d] W fun e w' => e = .returned (.int .i64 (sumS b l (scoreWordS k b l (i : Int)) y ny)) ∧ Below W.heap.size W w') := fun i V cv W hW hV => HSC0.out i V cv W (HBW.out W hW) hV
    have HC0 : Hid (∀ W, Below w1.heap.size w1 W → W.cell? ⟨w.heap.size, 0, none⟩ = some (.int .i64 (un : Int))) := fun W hW => by rw [← HUN.out]; exact (X1.out.below' hW).cell 0
    go_loopw [10, 11] (fun vs vi wr => ∃ (i ll c1 : Nat) (R : Option Addr), i ≤ un ∧ vi = .int .i64 (i : Int) ∧ vs = .slice R ll c1 ∧ Hid ((namesF P i).length = ll) ∧ Hid (OI w1.heap.size wr R c1 (namesF P i)) ∧ Below w1.heap.size w1 wr) (fun _ vi _ => un - (intOf vi).toNat)
    case atStart => exact ⟨0, 0, 0, none, by omega, rfl, rfl, rfl, OI.nil _ _, Below.refl _ _⟩
    case round =>
      obtain ⟨i, ll, c1, R, hi, rfl, rfl, HL, HO, hbel⟩ := hrel
      have c0r := HC0.out _ hbel
      by_cases hlt : i < un
      · have hii : (i : Int) < (un : Int) := by omega
        have hll : ll ≤ 64 := by have := namesF_length P i; rw [HL.out] at this; omega
        go_wp2_with fail
        refine wp_region_noPanic ?_
        obtain ⟨v0, hv0⟩ : ∃ W, W = wr.drew := ⟨_, rfl⟩
        have k0 : Below w1.heap.size w1 v0 := by rw [hv0]; exact hbel.drew
        have O0 : Hid (OI w1.heap.size v0 R c1 (namesF P i)) := by unfold Hid; rw [hv0]; exact HO.out
        refine wp_region_held_drew (S := fun W => W.rangeAt w.heap.size 0 (scC u b A ny c k)) (by kernel_rfl) (by rw [← hv0]; exact HSX.out _ k0) (fun hS0 => ?_)
        rw [← hv0] at hS0 ⊢
        clear hv0
        refine hd_load 0 w.heap.size 0 (scC u b A ny c k) 46 (.tmp 3) rfl rfl rfl (by kernel_rfl) (by kernel_rfl) (by kernel_rfl) (fun _ _ _ h => h) rfl (fun w h => h) Tryz.underlying46 rfl HINL.out hS0 ?_
        refine hd_load 1 w.heap.size 0 (scC u b A ny c k) 46 (.tmp 3) rfl rfl rfl (by kernel_rfl) (by kernel_rfl) (by kernel_rfl) (fun _ _ _ h => h) rfl (fun w h => h) Tryz.underlying46 rfl HINL.out hS0 ?_
        refine hd_take 2 (.int .i64 (i : Int)) rfl rfl (by kernel_rfl) (by kernel_rfl) (by kernel_rfl) (fun _ _ _ h => h) (fun w hw => by go_simp) hS0 ?_
        refine hd_take 4 (.slice Y ny d) rfl rfl (by kernel_rfl) (by kernel_rfl) (by kernel_rfl) (fun _ _ _ h => h) (fun w hw => by go_simp) hS0 ?_
        refine hd_take 6 (.int .i64 zb) rfl rfl (by kernel_rfl) (by kernel_rfl) (by kernel_rfl) (fun _ _ _ h => h) (fun w hw => by go_simp) hS0 ?_
        simp only [List.getElem_toArray, List.getElem_cons_succ, List.getElem_cons_zero, Act.put, List.setIfInBounds_toArray, List.set_cons_zero, List.set_cons_succ]
        refine hd_calls 3 90 #[.agg (scC u b A ny c k).toArray, .int .i64 (i : Int)] rfl rfl (by kernel_rfl) (by go_simp) ((HSW.out i (by omega) _ k0).mono ?_)
        rintro e v1 ⟨V, cv, rfl, hV, hb1⟩
        have k1 := bel_on k0 hb1
        have hS1 := HSX.out _ k1
        refine ⟨_, rfl, hS1, ?_⟩
        simp only [List.getElem_toArray, List.getElem_cons_succ, List.getElem_cons_zero, Act.put, List.setIfInBounds_toArray, List.set_cons_zero, List.set_cons_succ]
        refine hd_calls 5 89 #[.agg (scC u b A ny c k).toArray, .slice V ny cv, .slice Y ny d] rfl rfl (by kernel_rfl) (by go_simp) ((HSC.out i V cv _ k1 hV).mono ?_)
        rintro e v2 ⟨rfl, hb2⟩
        have k2 := bel_on k1 hb2
        have hS2 := HSX.out _ k2
        refine ⟨_, rfl, hS2, ?_⟩
        simp only [List.getElem_toArray, List.getElem_cons_succ, List.getElem_cons_zero, Act.put, List.setIfInBounds_toArray, List.set_cons_zero, List.set_cons_succ]
        refine hd_take 7 (.bool (decide (zb ≤ sumS b l (scoreWordS k b l (i : Int)) y ny))) rfl rfl (by kernel_rfl) (by kernel_rfl) (by kernel_rfl) (fun _ _ _ h => h) (fun w hw => by go_simp) hS2 ?_
        refine wpAnyH_done (by kernel_rfl) (NoPanic.normal ?_) _
        simp only [List.getElem_toArray, List.getElem_cons_succ, List.getElem_cons_zero, Act.put, List.setIfInBounds_toArray, List.set_cons_zero, List.set_cons_succ]
        have O2 := Lib.hid ((O0.out.below hb1).below hb2)
        have K2 := Lib.hid k2
        rw [HPP.out i]
        clear k0 k1 k2 hS0 hS1 hS2 hb1 hb2 hV O0
        cases hb_ : P i with
        | true =>
          have HN := Lib.hid (namesF_yes hb_)
          go_wp2_with (at_builtin; refine wpList_append_int _ rfl (.tmp 36) (.tmp 38) rfl w1.heap.size R ll c1 (namesF P i) HL.out rfl (O2.out.below (alloc_bel v2 _)) _ (some ⟨v2.heap.size, 0, none⟩) 1 rfl (src_int v2 _) (by omega) (by have := (K2.out).size; simp; omega) ?_; intro A7 c7 w7 ho7 hb7 hg7; have O7 := Lib.hid ho7; have D7 := Lib.hid (((K2.out).trans ((alloc_bel v2 _).mono (K2.out).size)).trans hb7); clear ho7 hb7 hg7)
          go_roundw
          case rel => exact ⟨i + 1, ll + 1, c7, A7, by omega, by go_num, rfl, by unfold Hid; rw [HN.out, List.length_append, HL.out]; rfl, by unfold Hid; rw [HN.out]; exact O7.out, D7.out⟩
          case measure => simp [intOf] <;> omega
        | false =>
          have HN := Lib.hid (namesF_no hb_)
          go_wp2_with fail
          go_roundw
          case rel => exact ⟨i + 1, ll, c1, R, by omega, by go_num, rfl, by unfold Hid; rw [HN.out]; exact HL.out, by unfold Hid; rw [HN.out]; exact O2.out, K2.out⟩
          case measure => simp [intOf] <;> omega
      · obtain rfl : i = un := by omega
        have hx2 : ¬ ((i : Int) < (i : Int)) := by omega
        go_wp2_with fail
        go_ret2
        refine ⟨?_, HBW.out _ hbel⟩
        rw [HS.out]
        exact ⟨R, c1, by rw [HL.out]; rfl, HO.out.le_ (by have := D1.out.size; have := hz0.out; omega)⟩
  · have HS : Hid (nmsC u b l k y x z = ([], (boundS u b l y x z).2)) := by unfold Hid nmsC; rw [if_neg he]
    obtain ⟨er, her⟩ : ∃ er, (boundS u b l y x z).2 = er := ⟨_, rfl⟩
    have t1 : (er == 0) = false := by rw [beq_eq_false_iff_ne, ← her]; exact he
    have t2 : ¬ er = 0 := by rw [← her]; exact he
    rw [her] at HBD HS
    generalize (boundS u b l y x z).1 = zb at HBD
    clear hn hyl h hy hk hW0 he her hx hz hlx hlz
    go_enter Tryz.func34, Tryz.ntmps34
    go_wp2_with (first
      | (rw [← HW0.out])
      | (refine wpList_load_row rfl 46 (.tmp 3) rfl w.heap.size rfl 46 (scC u b A n c k).toArray (0, 0) _ x0.out Tryz.underlying46 rfl HIN.out ?_)
      | (refine wpList_load_row rfl 27 (.tmp 5) rfl (w.heap.size + 1) rfl 27 #[.slice X lx cx, .slice Z lz cz] (0, 0) _ y0.out Tryz.underlying27 rfl (by kernel_rfl) ?_)
      | (go_at_call 32; (with_reducible refine (HBD.out _ b0.out).mono ?_); rintro e w1 ⟨rfl, hb1⟩; have D1 := Lib.hid hb1; clear hb1))
    go_ret2
    exact ⟨intsOwn_nil _ _ er HS.out, bel_on b0.out D1.out⟩
end Go.Proofs.YtenpkmgbaajeeaaGreat

/- Words, weights and names of steps: the law's walk. -/
namespace Go.Proofs.YtenpkmgbaajeeaaGreat
open Go.RowKit
set_option linter.unusedVariables false
set_option linter.unusedSimpArgs false

theorem it_ext {a b : List Int} (hl : a.length = b.length) (h : ∀ i, i < a.length → it a i = it b i) : a = b := by
  refine List.ext_getElem hl fun i h1 h2 => ?_
  have := h i h1
  rwa [it_in h1, it_in h2] at this
def sameI (a b : List Int) : Bool := decide (a = b)
set_option maxHeartbeats 4000000 in
set_option maxRecDepth 1000000 in
theorem SameInts_any (A : Option Addr) (c : Nat) (a : List Int) (B : Option Addr) (d : Nat) (b : List Int) (w : World) {n m : Nat} (hn : a.length = n) (hm : b.length = m) (ha : IR w A c a) (hb : IR w B d b) :
    Calls Tryz.prog 25 #[.slice A n c, .slice B m d] w fun e w' => e = .returned (.bool (sameI a b)) ∧ Below w.heap.size w w' := by
  have mixed : Tryz.prog.follows Departure.mixedOrders = true := by kernel_rfl
  have HAW : Hid (∀ W, Below w.heap.size w W → IR W A c a ∧ IR W B d b) := fun W hW => ⟨ha.below hW, hb.below hW⟩
  have hna : (n : Int) ≤ 140737488351232 := by have := ha.len; omega
  have hnb : (m : Int) ≤ 140737488351232 := by have := hb.len; omega
  have HN := Lib.hid hn
  have HM := Lib.hid hm
  by_cases e : n = m
  · subst e
    have HS : Hid ((∀ i, i < n → it a i = it b i) → sameI a b = true) := fun h => decide_eq_true (it_ext (by have := HN.out; have := HM.out; omega) (by rw [HN.out]; exact h))
    have HD : Hid (∀ i, it a i ≠ it b i → sameI a b = false) := fun i h => decide_eq_false (fun e => h (by rw [e]))
    have HIA : Hid (∀ i, i < n → ∀ W, Below w.heap.size w W → (∃ p o, A = some ⟨p, o, none⟩ ∧ W.cell? ⟨p, o + i, none⟩ = some (.int .i64 (it a i))) ∧ ∃ p o, B = some ⟨p, o, none⟩ ∧ W.cell? ⟨p, o + i, none⟩ = some (.int .i64 (it b i))) := fun i hi W hW => by
      obtain ⟨h1, h2⟩ := HAW.out W hW
      obtain ⟨p, o, e, _, hc⟩ := h1.at_ (i := i) (by have := HN.out; omega)
      obtain ⟨p2, o2, e2, _, hc2⟩ := h2.at_ (i := i) (by have := HM.out; omega)
      exact ⟨⟨p, o, e, hc⟩, ⟨p2, o2, e2, hc2⟩⟩
    generalize sameI a b = r at HS HD ⊢
    clear hn hm ha hb
    go_enter Tryz.func25, Tryz.ntmps25
    go_wp2_with fail
    go_loopw [5] (fun vi wr => ∃ i : Nat, i ≤ n ∧ vi = .int .i64 (i : Int) ∧ Hid (∀ j, j < i → it a j = it b j) ∧ Below w.heap.size w wr) (fun vi _ => n - (intOf vi).toNat)
    case atStart => exact ⟨0, by omega, rfl, fun j hj => by omega, Below.refl _ _⟩
    case round =>
      obtain ⟨i, hi, rfl, HE, hbel⟩ := hrel
      by_cases hlt : i < n
      · have hii : (i : Int) < n := by omega
        have hi0 : (0 : Int) ≤ i := by omega
        obtain ⟨⟨p, o, rfl, hc⟩, p2, o2, rfl, hc2⟩ := HIA.out i hlt wr hbel
        have hbd := hbel.drew
        have HNE := Lib.hid (HD.out i)
        have HEQ : Hid (it a i = it b i → ∀ j, j < i + 1 → it a j = it b j) := fun h j hj => by
          rcases Nat.lt_or_ge j i with h1 | h1
          · exact HE.out j h1
          · obtain rfl : j = i := by omega
            exact h
        generalize it a i = u at *
        generalize it b i = v at *
        have hcd : wr.drew.cell? ⟨p, o + i, none⟩ = some (.int .i64 u) ∧ wr.drew.cell? ⟨p2, o2 + i, none⟩ = some (.int .i64 v) := ⟨hc, hc2⟩
        by_cases huv : u = v
        · have HE2 := Lib.hid (HEQ.out huv)
          clear HIA HNE HEQ
          go_wp2_with fail
          refine wp_region_noPanic ?_
          refine wp_region_held_drew (S := fun W => W.cell? ⟨p, o + i, none⟩ = some (.int .i64 u) ∧ W.cell? ⟨p2, o2 + i, none⟩ = some (.int .i64 v)) (by kernel_rfl) hcd (fun hS => ?_)
          refine hd_take 0 (.slice (some ⟨p, o, none⟩) n c) rfl rfl (by kernel_rfl) (by kernel_rfl) (by kernel_rfl) (fun _ _ _ h => h) (fun w hw => by go_simp) hS ?_
          refine hd_take 1 (.int .i64 (i : Int)) rfl rfl (by kernel_rfl) (by kernel_rfl) (by kernel_rfl) (fun _ _ _ h => h) (fun w hw => by go_simp) hS ?_
          refine hd_take 4 (.slice (some ⟨p2, o2, none⟩) n d) rfl rfl (by kernel_rfl) (by kernel_rfl) (by kernel_rfl) (fun _ _ _ h => h) (fun w hw => by go_simp) hS ?_
          refine hd_take 5 (.int .i64 (i : Int)) rfl rfl (by kernel_rfl) (by kernel_rfl) (by kernel_rfl) (fun _ _ _ h => h) (fun w hw => by go_simp) hS ?_
          simp only [List.getElem_toArray, List.getElem_cons_succ, List.getElem_cons_zero, Act.put, List.setIfInBounds_toArray, List.set_cons_zero, List.set_cons_succ]
          refine hd_take 2 (.pointer (some ⟨p, o + i, none⟩)) rfl rfl (by kernel_rfl) (by kernel_rfl) (by kernel_rfl) (fun _ _ _ h => h) (fun w hw => by go_simp) hS ?_
          refine hd_take 6 (.pointer (some ⟨p2, o2 + i, none⟩)) rfl rfl (by kernel_rfl) (by kernel_rfl) (by kernel_rfl) (fun _ _ _ h => h) (fun w hw => by go_simp) hS ?_
          simp only [List.getElem_toArray, List.getElem_cons_succ, List.getElem_cons_zero, Act.put, List.setIfInBounds_toArray, List.set_cons_zero, List.set_cons_succ]
          refine hd_take 3 (.int .i64 u) rfl rfl (by kernel_rfl) (by kernel_rfl) (by kernel_rfl) (fun _ _ _ h => h) (fun w hw => by have hx := hw.1; simp [go_sem, hx]) hS ?_
          refine hd_take 7 (.int .i64 v) rfl rfl (by kernel_rfl) (by kernel_rfl) (by kernel_rfl) (fun _ _ _ h => h) (fun w hw => by have hx := hw.2; simp [go_sem, hx]) hS ?_
          simp only [List.getElem_toArray, List.getElem_cons_succ, List.getElem_cons_zero, Act.put, List.setIfInBounds_toArray, List.set_cons_zero, List.set_cons_succ]
          refine hd_take 8 (.bool false) rfl rfl (by kernel_rfl) (by kernel_rfl) (by kernel_rfl) (fun _ _ _ h => h) (fun w hw => by simp [go_sem, huv]) hS ?_
          refine wpAnyH_done (by kernel_rfl) (NoPanic.normal ?_) _
          simp only [List.getElem_toArray, List.getElem_cons_succ, List.getElem_cons_zero, Act.put, List.setIfInBounds_toArray, List.set_cons_zero, List.set_cons_succ]
          go_wp2_with fail
          go_roundw
          case rel => exact ⟨i + 1, by omega, by go_num, HE2.out, hbd⟩
          case measure => simp [intOf]; omega
        · have HR := Lib.hid (HNE.out huv)
          clear HIA HNE HEQ
          go_wp2_with fail
          refine wp_region_noPanic ?_
          refine wp_region_held_drew (S := fun W => W.cell? ⟨p, o + i, none⟩ = some (.int .i64 u) ∧ W.cell? ⟨p2, o2 + i, none⟩ = some (.int .i64 v)) (by kernel_rfl) hcd (fun hS => ?_)
          refine hd_take 0 (.slice (some ⟨p, o, none⟩) n c) rfl rfl (by kernel_rfl) (by kernel_rfl) (by kernel_rfl) (fun _ _ _ h => h) (fun w hw => by go_simp) hS ?_
          refine hd_take 1 (.int .i64 (i : Int)) rfl rfl (by kernel_rfl) (by kernel_rfl) (by kernel_rfl) (fun _ _ _ h => h) (fun w hw => by go_simp) hS ?_
          refine hd_take 4 (.slice (some ⟨p2, o2, none⟩) n d) rfl rfl (by kernel_rfl) (by kernel_rfl) (by kernel_rfl) (fun _ _ _ h => h) (fun w hw => by go_simp) hS ?_
          refine hd_take 5 (.int .i64 (i : Int)) rfl rfl (by kernel_rfl) (by kernel_rfl) (by kernel_rfl) (fun _ _ _ h => h) (fun w hw => by go_simp) hS ?_
          simp only [List.getElem_toArray, List.getElem_cons_succ, List.getElem_cons_zero, Act.put, List.setIfInBounds_toArray, List.set_cons_zero, List.set_cons_succ]
          refine hd_take 2 (.pointer (some ⟨p, o + i, none⟩)) rfl rfl (by kernel_rfl) (by kernel_rfl) (by kernel_rfl) (fun _ _ _ h => h) (fun w hw => by go_simp) hS ?_
          refine hd_take 6 (.pointer (some ⟨p2, o2 + i, none⟩)) rfl rfl (by kernel_rfl) (by kernel_rfl) (by kernel_rfl) (fun _ _ _ h => h) (fun w hw => by go_simp) hS ?_
          simp only [List.getElem_toArray, List.getElem_cons_succ, List.getElem_cons_zero, Act.put, List.setIfInBounds_toArray, List.set_cons_zero, List.set_cons_succ]
          refine hd_take 3 (.int .i64 u) rfl rfl (by kernel_rfl) (by kernel_rfl) (by kernel_rfl) (fun _ _ _ h => h) (fun w hw => by have hx := hw.1; simp [go_sem, hx]) hS ?_
          refine hd_take 7 (.int .i64 v) rfl rfl (by kernel_rfl) (by kernel_rfl) (by kernel_rfl) (fun _ _ _ h => h) (fun w hw => by have hx := hw.2; simp [go_sem, hx]) hS ?_
          simp only [List.getElem_toArray, List.getElem_cons_succ, List.getElem_cons_zero, Act.put, List.setIfInBounds_toArray, List.set_cons_zero, List.set_cons_succ]
          refine hd_take 8 (.bool true) rfl rfl (by kernel_rfl) (by kernel_rfl) (by kernel_rfl) (fun _ _ _ h => h) (fun w hw => by simp [go_sem, huv]) hS ?_
          refine wpAnyH_done (by kernel_rfl) (NoPanic.normal ?_) _
          simp only [List.getElem_toArray, List.getElem_cons_succ, List.getElem_cons_zero, Act.put, List.setIfInBounds_toArray, List.set_cons_zero, List.set_cons_succ]
          go_wp2_with fail
          go_ret
          exact ⟨ret_bool' HR.out.symm, hbd⟩
      · obtain rfl : i = n := by omega
        have hx : ¬ ((i : Int) < i) := by omega
        have HR := Lib.hid (HS.out HE.out)
        clear HIA
        go_wp2_with fail
        go_ret
        exact ⟨ret_bool' HR.out.symm, hbel⟩
  · have HR : Hid (sameI a b = false) := decide_eq_false (fun h => e (by rw [← hn, ← hm, h]))
    have hne : ¬ ((n : Int) = (m : Int)) := by omega
    generalize sameI a b = r at HR ⊢
    clear hn hm ha hb HAW
    go_enter Tryz.func25, Tryz.ntmps25
    go_wp2_with fail
    go_ret
    exact ⟨ret_bool' HR.out.symm, Below.refl _ _⟩

set_option maxHeartbeats 4000000 in
set_option maxRecDepth 1000000 in
theorem refCheckSteps_any (s : StV) (w : World) (h : StOK w s) :
    Calls Tryz.prog 22 #[.agg s.cs.toArray] w fun e w' => e = .returned (.int .i64 (ckSt s.ok)) ∧ Below w.heap.size w w' := by
  have hk := h.k16
  obtain ⟨W0, hW0⟩ : ∃ W : World, W = w.alloc (.cells s.cs.toArray 29) := ⟨_, rfl⟩
  have b0 : Hid (Below w.heap.size w W0) := by unfold Hid; rw [hW0]; exact alloc_below _ _
  have x0 : Hid (Blk W0 w.heap.size 29 s.cs.toArray) := by unfold Hid; rw [hW0]; exact Blk.new w _ _
  have HW0 := Lib.hid hW0
  have HIN := Lib.hid (StV.info (s := s) hk)
  have HVS : Hid (∀ W, Below w.heap.size w W → Calls Tryz.prog 43 #[.agg s.cs.toArray] W fun e w' => e = .returned (.bool s.ok) ∧ Below W.heap.size W w') := fun W hW => refValidSteps_any s W (h.below hW)
  have HR : Hid (∀ b, s.ok = b → ckSt s.ok = if b = true then 0 else 70) := fun b hb => by subst hb; rfl
  generalize s.ok = ok at *
  generalize s.cs = cs at *
  clear h hk hW0
  cases ok with
  | true =>
    have HR := HR.out true rfl
    go_enter Tryz.func22, Tryz.ntmps22
    go_wp2_with (first
      | (rw [← HW0.out])
      | (refine wpList_load_row rfl 29 (.tmp 1) rfl (w.heap.size) rfl 29 cs.toArray (0, 0) _ x0.out Tryz.underlying29 rfl HIN.out ?_)
      | (go_at_call 43; (with_reducible refine (HVS.out _ b0.out).mono ?_); rintro e w1 ⟨rfl, hb⟩; have D1 := Lib.hid (bel_on b0.out hb); clear hb))
    go_ret
    exact ⟨rfl, D1.out⟩
  | false =>
    have HR := HR.out false rfl
    go_enter Tryz.func22, Tryz.ntmps22
    go_wp2_with (first
      | (rw [← HW0.out])
      | (refine wpList_load_row rfl 29 (.tmp 1) rfl (w.heap.size) rfl 29 cs.toArray (0, 0) _ x0.out Tryz.underlying29 rfl HIN.out ?_)
      | (go_at_call 43; (with_reducible refine (HVS.out _ b0.out).mono ?_); rintro e w1 ⟨rfl, hb⟩; have D1 := Lib.hid (bel_on b0.out hb); clear hb))
    go_ret
    exact ⟨rfl, D1.out⟩

set_option maxHeartbeats 8000000 in
set_option maxRecDepth 1000000 in
theorem codeSteps_walk_ (s : StV) (x : Int) (Y : Option Addr) (c : Nat) (y : List UInt8) (w : World) (h : StOK w s) (hx1 : -9223372036854775808 ≤ x) (hx2 : x ≤ 9223372036854775807) {n : Nat} (hy : y.length = n) (hY : BR w Y c y) :
    Calls Tryz.prog 3 #[.agg s.cs.toArray, .int .i64 x, .slice Y n c] w fun e w' => e = .returned (.bool true) ∧ Below w.heap.size w w' := by
  have hk := h.k16
  have mixed : Tryz.prog.follows Departure.mixedOrders = true := by kernel_rfl
  obtain ⟨W0, hW0⟩ : ∃ W : World, W = w.alloc (.cells s.cs.toArray 29) := ⟨_, rfl⟩
  have b0 : Hid (Below w.heap.size w W0) := by unfold Hid; rw [hW0]; exact alloc_below _ _
  have x0 : Hid (Blk W0 w.heap.size 29 s.cs.toArray) := by unfold Hid; rw [hW0]; exact Blk.new w _ _
  have HW0 := Lib.hid hW0
  have HIN := Lib.hid (StV.info (s := s) hk)
  have HL20 : Hid (s.cs.length = 20) := StV.len hk
  have HYL := Lib.hid hy
  have HYW : Hid (∀ W, Below w.heap.size w W → BR W Y c y) := fun W hW => hY.below hW
  have HF1 : Hid (∀ W, Below w.heap.size w W → Calls Tryz.prog 19 #[.agg s.cs.toArray, .int .i64 x] W fun e w' => WordErr (s.wordR x) e w' ∧ Below W.heap.size W w') := fun W hW => StepWord_any s x W (h.below hW) hx1 hx2
  have HF2 : Hid (∀ W, Below w.heap.size w W → Calls Tryz.prog 20 #[.agg s.cs.toArray, .int .i64 x] W fun e w' => WordErr (s.wordR x) e w' ∧ Below W.heap.size W w') := fun W hW => refStepWord_any s x W (h.below hW) hx1 hx2
  have HK1 : Hid (∀ W, Below w.heap.size w W → Calls Tryz.prog 21 #[.agg s.cs.toArray] W fun e w' => e = .returned (.int .i64 (ckSt s.ok)) ∧ Below W.heap.size W w') := fun W hW => CheckSteps_any s W (h.below hW)
  have HK2 : Hid (∀ W, Below w.heap.size w W → Calls Tryz.prog 22 #[.agg s.cs.toArray] W fun e w' => e = .returned (.int .i64 (ckSt s.ok)) ∧ Below W.heap.size W w') := fun W hW => refCheckSteps_any s W (h.below hW)
  have HT1 : Hid (∀ A a W, Below w.heap.size w W → BR W A a y → Calls Tryz.prog 23 #[.agg s.cs.toArray, .slice A n a] W fun e w' => IntsErr (s.wtsR y) e w' ∧ Below W.heap.size W w') := fun A a W hW hB => Weights_any s A a y W (h.below hW) hy hB
  have HT2 : Hid (∀ A a W, Below w.heap.size w W → BR W A a y → Calls Tryz.prog 24 #[.agg s.cs.toArray, .slice A n a] W fun e w' => IntsErr (s.wtsR y) e w' ∧ Below W.heap.size W w') := fun A a W hW hB => refWeights_any s A a y W (h.below hW) hy hB
  have HN1 : Hid (∀ A a W, Below w.heap.size w W → BR W A a y → Calls Tryz.prog 26 #[.agg s.cs.toArray, .slice A n a] W fun e w' => IntsErr (s.nmsR y) e w' ∧ Below W.heap.size W w') := fun A a W hW hB => TraceSteps_any s A a y W (h.below hW) hy hB
  have HN2 : Hid (∀ A a W, Below w.heap.size w W → BR W A a y → Calls Tryz.prog 27 #[.agg s.cs.toArray, .slice A n a] W fun e w' => IntsErr (s.nmsR y) e w' ∧ Below W.heap.size W w') := fun A a W hW hB => refTraceSteps_any s A a y W (h.below hW) hy hB
  have HSI : Hid (∀ l A a B b W {k : Nat}, l.length = k → IR W A a l → IR W B b l → Calls Tryz.prog 25 #[.slice A k a, .slice B k b] W fun e w' => e = .returned (.bool true) ∧ Below W.heap.size W w') := fun l A a B b W k hk h1 h2 => by
    have := SameInts_any A a l B b l W hk hk h1 h2
    rwa [show sameI l l = true from decide_eq_true rfl] at this
  have HX : Hid (∀ W, Below W0.heap.size W0 W → Blk W w.heap.size 29 s.cs.toArray) := fun W hW => x0.out.below' hW
  have HXR : Hid (∀ W, Below W0.heap.size W0 W → W.rangeAt w.heap.size 0 s.cs) := fun W hW => (x0.out.below' hW).range
  obtain ⟨lw, ew, hlw⟩ : ∃ l e, s.wordR x = (l, e) := ⟨_, _, rfl⟩
  obtain ⟨lt, et, hlt⟩ : ∃ l e, s.wtsR y = (l, e) := ⟨_, _, rfl⟩
  obtain ⟨ln, en, hln⟩ : ∃ l e, s.nmsR y = (l, e) := ⟨_, _, rfl⟩
  rw [hlw] at HF1 HF2
  rw [hlt] at HT1 HT2
  rw [hln] at HN1 HN2
  obtain ⟨nw, HLW⟩ : ∃ k, Hid (lw.length = k) := ⟨_, rfl⟩
  obtain ⟨nt, HLT⟩ : ∃ k, Hid (lt.length = k) := ⟨_, rfl⟩
  obtain ⟨nn, HLN⟩ : ∃ k, Hid (ln.length = k) := ⟨_, rfl⟩
  have HWE : Hid (∀ e w', WordErr (lw, ew) e w' → ∃ A c, e = .returned (.tuple #[.slice A nw c, .int .i64 ew]) ∧ BR w' A c lw) := fun e w' ⟨A, c, he, hb⟩ => ⟨A, c, by rw [he, ← HLW.out], hb⟩
  have HTE : Hid (∀ e w', IntsErr (lt, et) e w' → ∃ A c, e = .returned (.tuple #[.slice A nt c, .int .i64 et]) ∧ IR w' A c lt) := fun e w' ⟨A, c, he, hb⟩ => ⟨A, c, by rw [he, ← HLT.out], hb⟩
  have HNE : Hid (∀ e w', IntsErr (ln, en) e w' → ∃ A c, e = .returned (.tuple #[.slice A nn c, .int .i64 en]) ∧ IR w' A c ln) := fun e w' ⟨A, c, he, hb⟩ => ⟨A, c, by rw [he, ← HLN.out], hb⟩
  generalize WordErr (lw, ew) = WE at *
  generalize IntsErr (lt, et) = TE at *
  generalize IntsErr (ln, en) = NE at *
  generalize ckSt s.ok = ck at *
  generalize s.cs = cs at *
  have hny : (n : Int) ≤ 140737488351232 := by have := hY.len; omega
  clear h hk hW0 hlw hlt hln hy hY
  go_enter Tryz.func3, Tryz.ntmps3
  go_wp2_with (first
    | (rw [← HW0.out])
    | (at_builtin; refine wpList_append_bytes _ rfl (.tmp 14) (.tmp 15) rfl W0.heap.size (some ⟨W0.heap.size, 0, none⟩) 0 0 [] rfl rfl (OB.lit0 _ _ (Nat.le_refl _)) Y n c y HYL.out rfl (((HYW.out _ b0.out).below (alloc_bel _ _)).src HYL.out) (by omega) (by simp) ?_; intro A3 c3 w3 hon3 hbl3 hg3; clear hg3; have O3 := Lib.hid (hon3.br (by simp; have := HYL.out; omega)); have D3 := Lib.hid ((alloc_bel W0 _).trans hbl3); have X3 := Lib.hid (HX.out _ D3.out); clear hon3 hbl3; simp only [Nat.zero_add])
    | (refine wpList_load_row rfl 29 (.tmp 3) rfl (w.heap.size) rfl 29 cs.toArray (0, 0) _ X3.out Tryz.underlying29 rfl HIN.out ?_)
    | (refine wpList_load_row rfl 29 (.tmp 3) rfl (w.heap.size) rfl 29 cs.toArray (0, 0) _ X4.out Tryz.underlying29 rfl HIN.out ?_)
    | (go_at_call 19; (with_reducible refine (HF1.out _ (bel_on b0.out D3.out)).mono ?_); rintro e w4 ⟨hE, hb⟩; obtain ⟨A1, c1, rfl, hB1⟩ := HWE.out _ _ hE; have D4 := Lib.hid (bel_on D3.out hb); have B4 := Lib.hid hB1; have X4 := Lib.hid (HX.out _ D4.out); have O4 := Lib.hid (O3.out.below hb); clear hE hb hB1)
    | (go_at_call 20; (with_reducible refine (HF2.out _ (bel_on b0.out D4.out)).mono ?_); rintro e w5 ⟨hE, hb⟩; obtain ⟨A2, c2, rfl, hB2⟩ := HWE.out _ _ hE; have D5 := Lib.hid (bel_on D4.out hb); have B5 := Lib.hid (B4.out.below hb); have C5 := Lib.hid hB2; have O5 := Lib.hid (O4.out.below hb); clear hE hb hB2))
  have HS4 : Hid (∀ W, Below w5.heap.size w5 W → BR W A1 c1 lw ∧ BR W A2 c2 lw ∧ W.rangeAt w.heap.size 0 cs) := fun W hW => ⟨B5.out.below hW, C5.out.below hW, HXR.out _ (bel_on D5.out hW)⟩
  have HB4 : Hid (∀ W, Below w5.heap.size w5 W → Below w.heap.size w W) := fun W hW => bel_on b0.out (bel_on D5.out hW)
  have HS : Hid (∀ W, Below w5.heap.size w5 W → BR W A1 c1 lw ∧ BR W A2 c2 lw ∧ W.rangeAt w.heap.size 0 cs) := fun W hW => HS4.out W hW
  have E0 : Below w5.heap.size w5 w5 := Below.refl _ _
  refine wp_region_noPanic ?_
  refine wp_region_held_drew (S := fun W => BR W A1 c1 lw ∧ BR W A2 c2 lw ∧ W.rangeAt w.heap.size 0 cs) (by kernel_rfl) (HS.out _ E0.drew) (fun hS => ?_)
  have E0 := E0.drew
  refine hd_take 0 (.slice A1 nw c1) rfl rfl (by kernel_rfl) (by kernel_rfl) (by kernel_rfl) (fun _ _ _ h => h) (fun w hw => by go_simp) hS ?_
  simp only [List.getElem_toArray, List.getElem_cons_succ, List.getElem_cons_zero, Act.put, List.setIfInBounds_toArray, List.set_cons_zero, List.set_cons_succ]
  refine hd_take 2 (.slice A2 nw c2) rfl rfl (by kernel_rfl) (by kernel_rfl) (by kernel_rfl) (fun _ _ _ h => h) (fun w hw => by go_simp) hS ?_
  simp only [List.getElem_toArray, List.getElem_cons_succ, List.getElem_cons_zero, Act.put, List.setIfInBounds_toArray, List.set_cons_zero, List.set_cons_succ]
  refine hd_take 1 (.string (strB lw)) rfl rfl (by kernel_rfl) (by kernel_rfl) (by kernel_rfl) (fun _ _ _ h => h) (fun w hw => by have hx := run_string_br hw.1 _ HLW.out; simp [execOp, Act.eval, Act.put, Sem.run_bind, hx]) hS ?_
  simp only [List.getElem_toArray, List.getElem_cons_succ, List.getElem_cons_zero, Act.put, List.setIfInBounds_toArray, List.set_cons_zero, List.set_cons_succ]
  refine hd_take 3 (.string (strB lw)) rfl rfl (by kernel_rfl) (by kernel_rfl) (by kernel_rfl) (fun _ _ _ h => h) (fun w hw => by have hx := run_string_br hw.2.1 _ HLW.out; simp [execOp, Act.eval, Act.put, Sem.run_bind, hx]) hS ?_
  simp only [List.getElem_toArray, List.getElem_cons_succ, List.getElem_cons_zero, Act.put, List.setIfInBounds_toArray, List.set_cons_zero, List.set_cons_succ]
  refine hd_take 4 (.bool false) rfl rfl (by kernel_rfl) (by kernel_rfl) (by kernel_rfl) (fun _ _ _ h => h) (fun w hw => by simp [go_sem]) hS ?_
  simp only [List.getElem_toArray, List.getElem_cons_succ, List.getElem_cons_zero, Act.put, List.setIfInBounds_toArray, List.set_cons_zero, List.set_cons_succ]
  refine hd_take 5 (.bool false) rfl rfl (by kernel_rfl) (by kernel_rfl) (by kernel_rfl) (fun _ _ _ h => h) (fun w hw => by go_simp) hS ?_
  simp only [List.getElem_toArray, List.getElem_cons_succ, List.getElem_cons_zero, Act.put, List.setIfInBounds_toArray, List.set_cons_zero, List.set_cons_succ]
  refine hg_take 6 (.int .i64 ew) rfl (by rfl) (by kernel_rfl) (by kernel_rfl) (by kernel_rfl) (fun _ _ _ h => h) (fun w hw => by go_simp) hS ?_
  simp only [List.getElem_toArray, List.getElem_cons_succ, List.getElem_cons_zero, Act.put, List.setIfInBounds_toArray, List.set_cons_zero, List.set_cons_succ]
  refine hg_take 7 (.int .i64 ew) rfl (by rfl) (by kernel_rfl) (by kernel_rfl) (by kernel_rfl) (fun _ _ _ h => h) (fun w hw => by go_simp) hS ?_
  simp only [List.getElem_toArray, List.getElem_cons_succ, List.getElem_cons_zero, Act.put, List.setIfInBounds_toArray, List.set_cons_zero, List.set_cons_succ]
  refine hg_take 8 (.bool false) rfl (by rfl) (by kernel_rfl) (by kernel_rfl) (by kernel_rfl) (fun _ _ _ h => h) (fun w hw => by simp [go_sem]) hS ?_
  simp only [List.getElem_toArray, List.getElem_cons_succ, List.getElem_cons_zero, Act.put, List.setIfInBounds_toArray, List.set_cons_zero, List.set_cons_succ]
  refine hd_take 9 (.bool false) rfl rfl (by kernel_rfl) (by kernel_rfl) (by kernel_rfl) (fun _ _ _ h => h) (fun w hw => by go_simp) hS ?_
  simp only [List.getElem_toArray, List.getElem_cons_succ, List.getElem_cons_zero, Act.put, List.setIfInBounds_toArray, List.set_cons_zero, List.set_cons_succ]
  refine hd_take 10 (.bool false) rfl rfl (by kernel_rfl) (by kernel_rfl) (by kernel_rfl) (fun _ _ _ h => h) (fun w hw => by go_simp) hS ?_
  simp only [List.getElem_toArray, List.getElem_cons_succ, List.getElem_cons_zero, Act.put, List.setIfInBounds_toArray, List.set_cons_zero, List.set_cons_succ]
  refine hg_load 11 (w.heap.size) (0) (cs) _ _ rfl rfl (by rfl) (by kernel_rfl) (by kernel_rfl) (by kernel_rfl) (fun _ _ _ h => h) rfl (fun w hw => hw.2.2) Tryz.underlying29 rfl (infoS HL20.out) hS ?_
  simp only [List.getElem_toArray, List.getElem_cons_succ, List.getElem_cons_zero, Act.put, List.setIfInBounds_toArray, List.set_cons_zero, List.set_cons_succ]
  refine hg_load 13 (w.heap.size) (0) (cs) _ _ rfl rfl (by rfl) (by kernel_rfl) (by kernel_rfl) (by kernel_rfl) (fun _ _ _ h => h) rfl (fun w hw => hw.2.2) Tryz.underlying29 rfl (infoS HL20.out) hS ?_
  simp only [List.getElem_toArray, List.getElem_cons_succ, List.getElem_cons_zero, Act.put, List.setIfInBounds_toArray, List.set_cons_zero, List.set_cons_succ]
  refine hg_calls 12 21 #[.agg cs.toArray] rfl (by rfl) (by kernel_rfl) (by go_simp <;> rfl) ?_
  refine (HK1.out _ (HB4.out _ E0)).mono ?_
  rintro e u1 ⟨rfl, hb⟩
  have E1_ := bel_on E0 hb
  have hS1_ := HS.out _ E1_
  clear hb
  refine ⟨_, rfl, hS1_, ?_⟩
  simp only [List.getElem_toArray, List.getElem_cons_succ, List.getElem_cons_zero, Act.put, List.setIfInBounds_toArray, List.set_cons_zero, List.set_cons_succ]
  refine hg_calls 14 22 #[.agg cs.toArray] rfl (by rfl) (by kernel_rfl) (by go_simp <;> rfl) ?_
  refine (HK2.out _ (HB4.out _ E1_)).mono ?_
  rintro e u2 ⟨rfl, hb⟩
  have E2_ := bel_on E1_ hb
  have hS2_ := HS.out _ E2_
  clear hb
  refine ⟨_, rfl, hS2_, ?_⟩
  simp only [List.getElem_toArray, List.getElem_cons_succ, List.getElem_cons_zero, Act.put, List.setIfInBounds_toArray, List.set_cons_zero, List.set_cons_succ]
  refine hg_take 15 (.bool false) rfl (by rfl) (by kernel_rfl) (by kernel_rfl) (by kernel_rfl) (fun _ _ _ h => h) (fun w hw => by simp [go_sem]) hS2_ ?_
  simp only [List.getElem_toArray, List.getElem_cons_succ, List.getElem_cons_zero, Act.put, List.setIfInBounds_toArray, List.set_cons_zero, List.set_cons_succ]
  refine hd_take 16 (.bool false) rfl rfl (by kernel_rfl) (by kernel_rfl) (by kernel_rfl) (fun _ _ _ h => h) (fun w hw => by go_simp) hS2_ ?_
  simp only [List.getElem_toArray, List.getElem_cons_succ, List.getElem_cons_zero, Act.put, List.setIfInBounds_toArray, List.set_cons_zero, List.set_cons_succ]
  refine wpAnyH_done (by kernel_rfl) (NoPanic.normal ?_) _
  have D6 := Lib.hid (HB4.out _ E2_)
  have O6 := Lib.hid (O5.out.below E2_)
  have X6 := Lib.hid (HX.out _ (bel_on D5.out E2_))
  have HX2 : Hid (∀ W, Below u2.heap.size u2 W → Blk W w.heap.size 29 cs.toArray) := fun W hW => X6.out.below' hW
  have G6 : Below u2.heap.size u2 u2 := Below.refl _ _
  clear HS4 HB4 HX HXR E0 E1_ E2_ hS hS1_ hS2_
  go_wp2_with (first
    | (refine wpList_load_row rfl 29 (.tmp 3) rfl (w.heap.size) rfl 29 cs.toArray (0, 0) _ X6.out Tryz.underlying29 rfl HIN.out ?_)
    | (refine wpList_load_row rfl 29 (.tmp 3) rfl (w.heap.size) rfl 29 cs.toArray (0, 0) _ X7.out Tryz.underlying29 rfl HIN.out ?_)
    | (refine wpList_load_row rfl 29 (.tmp 3) rfl (w.heap.size) rfl 29 cs.toArray (0, 0) _ X9.out Tryz.underlying29 rfl HIN.out ?_)
    | (refine wpList_load_row rfl 29 (.tmp 3) rfl (w.heap.size) rfl 29 cs.toArray (0, 0) _ Y7.out Tryz.underlying29 rfl HIN.out ?_)
    | (go_at_call 23; (with_reducible refine (HT1.out _ _ _ D6.out O6.out).mono ?_); rintro e w7 ⟨hE, hb⟩; obtain ⟨A7, c7, rfl, hB⟩ := HTE.out _ _ hE; have D7 := Lib.hid (bel_on D6.out hb); have G7 := Lib.hid hb; have B7 := Lib.hid hB; have O7 := Lib.hid (O6.out.below hb); have X7 := Lib.hid (HX2.out _ hb); clear hE hb hB)
    | (go_at_call 24; (with_reducible refine (HT2.out _ _ _ D7.out (HYW.out _ D7.out)).mono ?_); rintro e w8 ⟨hE, hb⟩; obtain ⟨A8, c8, rfl, hB⟩ := HTE.out _ _ hE; have D8 := Lib.hid (bel_on D7.out hb); have G8 := Lib.hid (bel_on G7.out hb); have C8 := Lib.hid hB; have B8 := Lib.hid (B7.out.below hb); have O8 := Lib.hid (O7.out.below hb); clear hE hb hB)
    | (go_at_call 25; (with_reducible refine (HSI.out _ _ _ _ _ _ HLT.out B8.out C8.out).mono ?_); rintro e w9 ⟨rfl, hb⟩; have D9 := Lib.hid (bel_on D8.out hb); have G9 := Lib.hid (bel_on G8.out hb); have O9 := Lib.hid (O8.out.below hb); have X9 := Lib.hid (HX2.out _ G9.out); clear hb)
    | (go_at_call 26; (with_reducible refine (HN1.out _ _ _ D9.out O9.out).mono ?_); rintro e v7 ⟨hE, hb⟩; obtain ⟨Z7, z7, rfl, hB⟩ := HNE.out _ _ hE; have M7 := Lib.hid (bel_on D9.out hb); have K7 := Lib.hid (bel_on G9.out hb); have N7 := Lib.hid hB; have P7 := Lib.hid (O9.out.below hb); have Y7 := Lib.hid (HX2.out _ K7.out); clear hE hb hB)
    | (go_at_call 27; (with_reducible refine (HN2.out _ _ _ M7.out (HYW.out _ M7.out)).mono ?_); rintro e v8 ⟨hE, hb⟩; obtain ⟨Z8, z8, rfl, hB⟩ := HNE.out _ _ hE; have M8 := Lib.hid (bel_on M7.out hb); have Q8 := Lib.hid hB; have N8 := Lib.hid (N7.out.below hb); have P8 := Lib.hid (P7.out.below hb); clear hE hb hB)
    | (go_at_call 25; (with_reducible refine (HSI.out _ _ _ _ _ _ HLN.out N8.out Q8.out).mono ?_); rintro e v9 ⟨rfl, hb⟩; have M9 := Lib.hid (bel_on M8.out hb); have hs1 := run_string_br (P8.out.below hb) _ HYL.out; have hs2 := run_string_br (HYW.out _ M9.out) _ HYL.out; clear hb))
  go_ret
  exact ⟨rfl, M9.out⟩
theorem codeSteps_walk (s : StV) (x : Int) (Y : Option Addr) (c : Nat) (y : List UInt8) {w : World} (h : StOK w s) (hx1 : -9223372036854775808 ≤ x) (hx2 : x ≤ 9223372036854775807) (hY : BR w Y c y) :
    Calls Tryz.prog 3 #[.agg s.cs.toArray, .int .i64 x, .slice Y y.length c] w fun e w' => e = .returned (.bool true) ∧ Below w.heap.size w w' := codeSteps_walk_ s x Y c y w h hx1 hx2 rfl hY
end Go.Proofs.YtenpkmgbaajeeaaGreat

/- Whether a code of steps is complete: the reference's, and both for any code. -/
namespace Go.Proofs.YtenpkmgbaajeeaaGreat
open Go.RowKit
set_option linter.unusedVariables false
set_option linter.unusedSimpArgs false

def thL (t : Nat → Int) (n : Nat) : List Int := (List.range n).map t
theorem thL_length (t : Nat → Int) (n : Nat) : (thL t n).length = n := by simp [thL]
theorem thL_succ (t : Nat → Int) (n : Nat) : thL t (n + 1) = thL t n ++ [t n] := by simp [thL, List.range_succ]
theorem thL_it {t : Nat → Int} {n i : Nat} (h : i < n) : it (thL t n) i = t i := by rw [it_in (by rw [thL_length]; exact h)]; simp [thL]
theorem mayS_or {d : Nat} {t : Nat → Int} {j v x : Nat} : (decide (∃ u, u < v ∧ mayS d t j u = true ∧ t (u + x) < (u : Int)) || (mayS d t j v && decide (t (v + x) < (v : Int)))) = decide (∃ u, u < v + 1 ∧ mayS d t j u = true ∧ t (u + x) < (u : Int)) := by
  rw [Bool.eq_iff_iff, Bool.or_eq_true, Bool.and_eq_true, decide_eq_true_eq, decide_eq_true_eq, decide_eq_true_eq]
  constructor
  · rintro (⟨u, h1, h2, h3⟩ | ⟨h1, h2⟩)
    · exact ⟨u, by omega, h2, h3⟩
    · exact ⟨v, by omega, h1, h2⟩
  · rintro ⟨u, h1, h2, h3⟩
    by_cases e : u = v
    · subst e; exact .inr ⟨h2, h3⟩
    · exact .inl ⟨u, by omega, h2, h3⟩
theorem mayS_fin {d : Nat} {t : Nat → Int} {j x : Nat} : decide (∃ u, u < d + 1 ∧ mayS d t j u = true ∧ t (u + x) < (u : Int)) = mayS d t (j + 1) x := by
  rw [mayS, decide_eq_decide]
  constructor
  · rintro ⟨v, hv, h1, h3⟩; exact ⟨v, by omega, h1, h3⟩
  · rintro ⟨v, hv, h1, h3⟩; exact ⟨v, by omega, h1, h3⟩
/-- What the next block may weigh, the first v weights of this one looked at. -/
def nextQ (d : Nat) (t : Nat → Int) (j v x : Nat) : Bool := decide (∃ u, u < v ∧ mayS d t j u = true ∧ t (u + x) < (u : Int))
end Go.Proofs.YtenpkmgbaajeeaaGreat

/- The law CodeTails: the walk. -/
namespace Go.Proofs.YtenpkmgbaajeeaaGreat
open Go.RowKit
set_option linter.unusedVariables false
set_option linter.unusedSimpArgs false

theorem frac2_open_ {W w' : World} {e : Ending} {r : (List Nat × List Nat) × Int} (h : Frac2 W w' e r) : ∃ X x Z z, e = .returned (.tuple #[.agg #[.slice X r.1.1.length x, .slice Z r.1.2.length z], .int .i64 r.2]) ∧ NR w' X x r.1.1 ∧ NR w' Z z r.1.2 ∧ Below W.heap.size W w' := by
  obtain ⟨v, rfl, X, x, Z, z, rfl, h1, h2, _, hb⟩ := h
  exact ⟨X, x, Z, z, rfl, h1.nr_, h2.nr_, hb⟩
set_option maxHeartbeats 8000000 in
set_option maxRecDepth 100000 in
theorem Complete_any (s : StV) (w : World) (h : StOK w s) :
    Calls Tryz.prog 61 #[.agg s.cs.toArray] w fun e w' => e = .returned (.tuple #[.bool (cmpSt s).1, .int .i64 (cmpSt s).2]) ∧ Below w.heap.size w w' := by
  cases hok : s.ok with
  | true =>
    have := complete_good s w h hok
    unfold cmpSt
    rw [hok]
    exact this
  | false =>
    have HCK : Hid (∀ W, Below w.heap.size w W → Calls Tryz.prog 21 #[.agg s.cs.toArray] W fun e w' => e = .returned (.int .i64 (ckSt s.ok)) ∧ Below W.heap.size W w') := fun W hW => CheckSteps_any s W (h.below hW)
    have hks := h.k16
    obtain ⟨W0, hW0⟩ : ∃ W : World, W = w.alloc (.cells s.cs.toArray 29) := ⟨_, rfl⟩
    have b0 : Hid (Below w.heap.size w W0) := by unfold Hid; rw [hW0]; exact alloc_below _ _
    have x0 : Hid (Blk W0 w.heap.size 29 s.cs.toArray) := by unfold Hid; rw [hW0]; exact Blk.new w _ _
    have HW0 := Lib.hid hW0
    have HIN := Lib.hid (StV.info (s := s) hks)
    have HS : Hid (cmpSt s = (false, 70)) := by unfold Hid cmpSt; rw [hok]; rfl
    rw [hok] at HCK
    rw [HS.out]
    generalize s.cs.toArray = cs at *
    clear hW0 h hks hok
    go_enter Tryz.func61, Tryz.ntmps61
    go_wp2_with (first
      | (rw [← HW0.out])
      | (refine wpList_load_row rfl 29 (.tmp 1) rfl (w.heap.size) rfl 29 cs (0, 0) _ x0.out Tryz.underlying29 rfl HIN.out ?_)
      | (go_at_call 21; (with_reducible refine (HCK.out _ b0.out).mono ?_); rintro e w1 ⟨rfl, hb⟩; have D1 := Lib.hid (bel_on b0.out hb); clear hb; simp only [ckSt]))
    go_ret2
    exact ⟨rfl, D1.out⟩
end Go.Proofs.YtenpkmgbaajeeaaGreat

/- The law CodeChances: the walk. -/
namespace Go.Proofs.YtenpkmgbaajeeaaGreat
open Go.RowKit
set_option linter.unusedVariables false
set_option linter.unusedSimpArgs false

theorem IR.src {w : World} {A : Option Addr} {c : Nat} {l : List Int} (h : IR w A c l) {n : Nat} (hn : l.length = n) : Src w 1 A n (cellsI l) := by subst hn; exact Rd.src h.1
theorem wpList_append_ints (w : World) {ops : Array Oper} {rest : List Oper} {o : Oper} {a : Act} {Q : Exit → Act → World → Prop} (hgd : o.guard = none) (s x : Operand)
    (ho : o.op = .call { callee := .builtin .append, args := #[s, x], argTypes := #[38, 38] })
    (B : Nat) (A : Option Addr) (n c : Nat) (l : List Int) (hn : l.length = n) (hs : a.eval s = .slice A n c) (hown : OI B w A c l)
    (X : Option Addr) (m d : Nat) (news : List Int) (hm : news.length = m) (hx : a.eval x = .slice X m d) (hsrc : Src w 1 X m (cellsI news))
    (hlen : (n + m) * 8 ≤ 140737488355328) (hB : B ≤ w.heap.size)
    (h : ∀ A' c' w', OI B w' A' c' (l ++ news) → Below B w w' → w.grownBy w' (Value.ownBlock (.slice A n c)) → wpList Tryz.prog ops Q rest (a.put o.dst (.slice A' (n + m) c')) w') : wpList Tryz.prog ops Q (o :: rest) a w := by
  obtain ⟨i0, hi, hz0, hz1, hz2⟩ := info_parts int_info'
  subst hn hm
  refine wpList_append_src w hgd s x 38 ho B 3 i0 (.int .i64 0) 1 8 Tryz.underlying38 hi hz0 hz1 hz2 rfl (by omega) A l.length c (cellsI l) hs hown X news.length d (cellsI news) hx hsrc (cellsI_one _)
    (by simp only [maxLen]; omega) hlen hB ?_
  intro A' c' w' h1 h2 h3
  have e : (l ++ news).length = l.length + news.length := by simp
  refine h A' c' w' ?_ (grown_below (Below.refl _ _) hown h2 hB (Nat.le_refl _)) h2
  unfold OI
  rw [cellsI_append, e]
  exact h1
theorem OI.lit0 (B : Nat) (w : World) (hB : B ≤ w.heap.size) : OI B (w.alloc (.cells #[] 3)) (some ⟨w.heap.size, 0, none⟩) 0 [] := OI.lit B w [] hB (by simp) rfl
theorem OI.far {B : Nat} {w : World} {A : Option Addr} {c : Nat} {l : List Int} (h : OI B w A c l) {p : Addr} (hp : p.block < B) (u : Value) : OI B (w.setCell p u) A c l := by
  refine World.ownsRow.kept h (grown_setCell w p u) ?_
  cases hv : (Value.slice A l.length c).ownBlock with
  | none => exact .inl rfl
  | some k =>
    refine .inr fun e => ?_
    have h1 := (World.ownsRow.lt h k hv).1
    have h2 : k = p.block := Option.some.inj e
    omega
theorem sameI_self (a : List Int) : sameI a a = true := decide_eq_true rfl

theorem nmsC_small (u b : Int) (l : List Int) (k : List UInt8) (y : List UInt8) (x z : List Nat) : (nmsC u b l k y x z).1.length ≤ 64 ∧ ∀ q ∈ (nmsC u b l k y x z).1, 0 ≤ q ∧ q ≤ 64 := by
  unfold nmsC
  split
  · rename_i h
    obtain ⟨h1, h2⟩ := boundS_ok h
    obtain ⟨h3, _⟩ := ckSC_zero h1
    obtain ⟨⟨o1, o2, _⟩, _⟩ := scoresB_parts h3
    refine ⟨Nat.le_trans (namesF_length _ _) (by omega), fun q hq => ?_⟩
    obtain ⟨v, hv, _, rfl⟩ := namesF_mem.1 hq
    omega
  · exact ⟨by simp, fun q hq => by cases hq⟩

set_option maxHeartbeats 8000000 in
set_option maxRecDepth 1000000 in
theorem codeChances_walk (u b : Int) (A : Option Addr) (c : Nat) (l : List Int) (k : List UInt8) (Y : Option Addr) (d : Nat) (y : List UInt8) (zz : Int) (X : Option Addr) (cx : Nat) (x : List Nat) (Z : Option Addr) (cz : Nat) (z : List Nat) (w : World) (h : IR w A c l) (hk : k.length = 16) (hc8 : c * 8 ≤ 140737488351232) (hy : BR w Y d y) (_ : -9223372036854775808 ≤ zz) (_ : zz ≤ 9223372036854775807) (hx : NR w X cx x) (hz : NR w Z cz z) :
    Calls Tryz.prog 4 #[.agg (scC u b A l.length c k).toArray, .slice Y y.length d, .int .i64 zz, .agg #[.slice X x.length cx, .slice Z z.length cz]] w fun e w' => e = .returned (.bool true) ∧ Below w.heap.size w w' := by
  obtain ⟨n, hn⟩ : ∃ n, l.length = n := ⟨_, rfl⟩
  obtain ⟨ny, hyl⟩ : ∃ n, y.length = n := ⟨_, rfl⟩
  obtain ⟨lx, hlx⟩ : ∃ n, x.length = n := ⟨_, rfl⟩
  obtain ⟨lz, hlz⟩ : ∃ n, z.length = n := ⟨_, rfl⟩
  rw [hn, hyl, hlx, hlz]
  have hlen8 : n * 8 ≤ 140737488351232 := by have := h.1.le; omega
  have HCH1 : Hid (∀ A' c' W, IR W A' c' l → Below w.heap.size w W → Calls Tryz.prog 28 #[.agg (scC u b A' n c' k).toArray, .slice Y ny d, .int .i64 zz] W fun e w' => ∃ X x' Z z, e = .returned (.tuple #[.agg #[.slice X (chanceS u b l y zz).1.1.length x', .slice Z (chanceS u b l y zz).1.2.length z], .int .i64 (chanceS u b l y zz).2]) ∧ NR w' X x' (chanceS u b l y zz).1.1 ∧ NR w' Z z (chanceS u b l y zz).1.2 ∧ Below W.heap.size W w') := fun A' c' W g1 hW => (Chance_any u b A' c' l k Y d y zz W hn hyl g1 (hy.below hW) hk).mono fun e w' h => frac2_open_ h
  have HCH2 : Hid (∀ W, Below w.heap.size w W → Calls Tryz.prog 29 #[.agg (scC u b A n c k).toArray, .slice Y ny d, .int .i64 zz] W fun e w' => ∃ X x' Z z, e = .returned (.tuple #[.agg #[.slice X (chanceS u b l y zz).1.1.length x', .slice Z (chanceS u b l y zz).1.2.length z], .int .i64 (chanceS u b l y zz).2]) ∧ NR w' X x' (chanceS u b l y zz).1.1 ∧ NR w' Z z (chanceS u b l y zz).1.2 ∧ Below W.heap.size W w') := fun W hW => (refChance_any u b A c l k Y d y zz W hn hyl (h.below hW) (hy.below hW) hk).mono fun e w' h => frac2_open_ h
  have HSF : Hid (∀ W X x' Z z X2 x2 Z2 z2, NR W X x' (chanceS u b l y zz).1.1 → NR W Z z (chanceS u b l y zz).1.2 → NR W X2 x2 (chanceS u b l y zz).1.1 → NR W Z2 z2 (chanceS u b l y zz).1.2 → Calls Tryz.prog 30 #[.agg #[.slice X (chanceS u b l y zz).1.1.length x', .slice Z (chanceS u b l y zz).1.2.length z], .agg #[.slice X2 (chanceS u b l y zz).1.1.length x2, .slice Z2 (chanceS u b l y zz).1.2.length z2]] W fun e w' => e = .returned (.bool true) ∧ Below W.heap.size W w') := fun W X x' Z z X2 x2 Z2 z2 a1 a2 a3 a4 => by
    have := SameFraction_any X x' _ Z z _ X2 x2 _ Z2 z2 _ W rfl rfl rfl rfl a1 a2 a3 a4
    rwa [sameB_self, sameB_self] at this
  have HB1 : Hid (∀ A' c' W, IR W A' c' l → Below w.heap.size w W → Calls Tryz.prog 31 #[.agg (scC u b A' n c' k).toArray, .slice Y ny d, .agg #[.slice X lx cx, .slice Z lz cz]] W fun e w' => e = .returned (.tuple #[.int .i64 (boundS u b l y x z).1, .int .i64 (boundS u b l y x z).2]) ∧ Below W.heap.size W w') := fun A' c' W g1 hW => Bound_any u b A' c' l k Y d y X cx x Z cz z W hn hyl hlx hlz g1 (hy.below hW) hk (hx.below hW) (hz.below hW)
  have HB2 : Hid (∀ W, Below w.heap.size w W → Calls Tryz.prog 32 #[.agg (scC u b A n c k).toArray, .slice Y ny d, .agg #[.slice X lx cx, .slice Z lz cz]] W fun e w' => e = .returned (.tuple #[.int .i64 (boundS u b l y x z).1, .int .i64 (boundS u b l y x z).2]) ∧ Below W.heap.size W w') := fun W hW => refBound_any u b A c l k Y d y X cx x Z cz z W hn hyl hlx hlz (h.below hW) (hy.below hW) hk (hx.below hW) (hz.below hW)
  have HT1 : Hid (∀ A' c' W, IR W A' c' l → Below w.heap.size w W → Calls Tryz.prog 33 #[.agg (scC u b A' n c' k).toArray, .slice Y ny d, .agg #[.slice X lx cx, .slice Z lz cz]] W fun e w' => IntsErr (nmsC u b l k y x z) e w' ∧ Below W.heap.size W w') := fun A' c' W g1 hW => (TraceScores_own u b A' c' l k Y d y X cx x Z cz z W hn hyl hlx hlz g1 (hy.below hW) hk (hx.below hW) (hz.below hW)).mono fun e w' ⟨⟨A, c', he, ho⟩, h2⟩ => by
    obtain ⟨s1, s2⟩ := nmsC_small u b l k y x z
    exact ⟨⟨A, c', he, ho.ir (by omega) (fun x hx => by have := s2 x hx; omega)⟩, h2⟩
  have HT2 : Hid (∀ W, Below w.heap.size w W → Calls Tryz.prog 34 #[.agg (scC u b A n c k).toArray, .slice Y ny d, .agg #[.slice X lx cx, .slice Z lz cz]] W fun e w' => IntsErr (nmsC u b l k y x z) e w' ∧ Below W.heap.size W w') := fun W hW => (refTraceScores_own u b A c l k Y d y X cx x Z cz z W hn hyl hlx hlz (h.below hW) (hy.below hW) hk (hx.below hW) (hz.below hW)).mono fun e w' ⟨⟨A, c', he, ho⟩, h2⟩ => by
    obtain ⟨s1, s2⟩ := nmsC_small u b l k y x z
    exact ⟨⟨A, c', he, ho.ir (by omega) (fun x hx => by have := s2 x hx; omega)⟩, h2⟩
  have HSI : Hid (∀ (a : List Int) A c B d n W, a.length = n → IR W A c a → IR W B d a → Calls Tryz.prog 25 #[.slice A n c, .slice B n d] W fun e w' => e = .returned (.bool true) ∧ Below W.heap.size W w') := fun a A c B d n W hna g1 g2 => by
    have := SameInts_any A c a B d a W hna hna g1 g2
    rwa [sameI_self] at this
  have HINF : Hid (∀ A c, (Tryz.prog.info? 46).map (·.size) = some (scC u b A n c k).toArray.size) := fun A c => scC_info u b A n c k hk
  have H := Lib.hid h
  have HN := Lib.hid hn
  have HK := Lib.hid hk
  have HONE : Hid ((scC u b A n c k).toArray.all (·.oneCell') = true) := by
    unfold Hid
    rw [List.all_toArray, List.all_eq_true]
    intro v hv
    simp only [scC, List.mem_cons] at hv
    rcases hv with rfl | rfl | rfl | hv
    · rfl
    · rfl
    · rfl
    · exact cells_one k v hv
  obtain ⟨W0, hW0⟩ : ∃ W : World, W = (w.alloc (.cells (scC u b A n c k).toArray 46)).alloc (.cells #[.slice X lx cx, .slice Z lz cz] 27) := ⟨_, rfl⟩
  have b0 : Hid (Below w.heap.size w W0) := by unfold Hid; rw [hW0]; exact alloc2_bel _ _ _
  have x0 : Hid (Blk W0 w.heap.size 46 (scC u b A n c k).toArray) := by unfold Hid; rw [hW0]; exact blk_b0 w _ _ _
  have y0 : Hid (Blk W0 (w.heap.size + 1) 27 #[.slice X lx cx, .slice Z lz cz]) := by unfold Hid; rw [hW0]; exact blk_b1 w _ _ _
  have hz0 : Hid (W0.heap.size = w.heap.size + 2) := by unfold Hid; rw [hW0]; simp
  have HW0 := Lib.hid hW0
  obtain ⟨r, hr⟩ : ∃ r, chanceS u b l y zz = r := ⟨_, rfl⟩
  rw [hr] at HCH1 HCH2 HSF
  obtain ⟨⟨p1, p2⟩, er⟩ := r
  dsimp only at HCH1 HCH2 HSF
  obtain ⟨q, hq⟩ : ∃ q, boundS u b l y x z = q := ⟨_, rfl⟩
  rw [hq] at HB1 HB2
  obtain ⟨q1, q2⟩ := q
  dsimp only at HB1 HB2
  obtain ⟨m, hm⟩ : ∃ q, nmsC u b l k y x z = q := ⟨_, rfl⟩
  rw [hm] at HT1 HT2
  obtain ⟨m1, m2⟩ := m
  obtain ⟨lm1, hm1⟩ : ∃ q, m1.length = q := ⟨_, rfl⟩
  have HM1 := Lib.hid hm1
  unfold IntsErr at HT1 HT2
  dsimp only at HT1 HT2
  rw [hm1] at HT1 HT2
  generalize p1.length = n1 at *
  generalize p2.length = n2 at *
  clear hW0 h hk hr hq hm hm1 hn hyl hlx hlz hx hz hy
  go_enter Tryz.func4, Tryz.ntmps4
  go_wp2_with (first
    | (rw [← HW0.out])
    | (refine wpList_load_row rfl 46 (.tmp 4) rfl w.heap.size rfl 46 (scC u b A n c k).toArray (0, 0) _ x0.out Tryz.underlying46 rfl (HINF.out _ _) ?_)
    | (refine wpList_store_row rfl 46 (.tmp 9) (.tmp 18) rfl W0.heap.size (scC u b A n c k).toArray rfl rfl 46 #[.int .i64 0, .int .i64 0, .slice none 0 0, .int .u8 0, .int .u8 0, .int .u8 0, .int .u8 0, .int .u8 0, .int .u8 0, .int .u8 0, .int .u8 0, .int .u8 0, .int .u8 0, .int .u8 0, .int .u8 0, .int .u8 0, .int .u8 0, .int .u8 0, .int .u8 0] (Blk.new W0 _ _) (HINF.out _ _) (by have := HK.out; simp [scC, cellsB, this]) HONE.out ?_; obtain ⟨w1, hV⟩ : ∃ W, W = (W0.alloc (.cells #[.int .i64 0, .int .i64 0, .slice none 0 0, .int .u8 0, .int .u8 0, .int .u8 0, .int .u8 0, .int .u8 0, .int .u8 0, .int .u8 0, .int .u8 0, .int .u8 0, .int .u8 0, .int .u8 0, .int .u8 0, .int .u8 0, .int .u8 0, .int .u8 0, .int .u8 0] 46)).setRow W0.heap.size (scC u b A n c k).toArray := ⟨_, rfl⟩; rw [← hV]; obtain ⟨gb, nb⟩ := box2_ _ _ _ _ hV; have D1 := Lib.hid (bel_on b0.out gb); have S1 := Lib.hid (x0.out.below' gb); have T1 := Lib.hid (y0.out.below' gb); have L1 := Lib.hid nb; have HG1 : Hid (w.heap.size + 2 ≤ W0.heap.size ∧ W0.heap.size < w1.heap.size) := (by unfold Hid; exact ⟨by have := hz0.out; omega, nb.lt⟩); have c2 : (w1.alloc (.cells #[] 3)).cell? ⟨w.heap.size, 2, none⟩ = some (.slice A n c) := (S1.out.alloc _).cell 2; clear hV gb nb)
    | (at_builtin; refine wpList_append_ints _ rfl (.tmp 19) (.tmp 21) rfl w1.heap.size (some ⟨w1.heap.size, 0, none⟩) 0 0 [] rfl rfl (OI.lit0 _ _ (Nat.le_refl _)) A n c l HN.out rfl (((H.out.below D1.out).below (alloc_bel _ _)).src HN.out) (by omega) (by simp) ?_; intro A3 c3 w3 hon3 hbl3 hg3; clear hg3 c2; have O3 := Lib.hid hon3; have E3 : Hid (Below w1.heap.size w1 w3) := (alloc_bel w1 _).trans hbl3; have L3 := Lib.hid (L1.out.below' E3.out); have k3 : w3.cell? ⟨W0.heap.size, 2, none⟩ = some (.slice A n c) := L3.out.cell 2; have f3 := L3.out.frozen 2; obtain ⟨w4, hw4⟩ : ∃ W, W = w3.setCell ⟨W0.heap.size, 2, none⟩ (.slice A3 n c3) := ⟨_, rfl⟩; have D4 : Hid (Below w.heap.size w w4) := (by unfold Hid; rw [hw4]; exact (bel_on D1.out E3.out).setCell (p := ⟨W0.heap.size, 2, none⟩) (by have := HG1.out; show w.heap.size ≤ W0.heap.size; omega) _); have S4 : Hid (Blk w4 w.heap.size 46 (scC u b A n c k).toArray) := (by unfold Hid; rw [hw4]; exact (S1.out.below' E3.out).far (p := ⟨W0.heap.size, 2, none⟩) (by have := HG1.out; show w.heap.size ≠ W0.heap.size; omega) _); have T4 : Hid (Blk w4 (w.heap.size + 1) 27 #[.slice X lx cx, .slice Z lz cz]) := (by unfold Hid; rw [hw4]; exact (T1.out.below' E3.out).far (p := ⟨W0.heap.size, 2, none⟩) (by have := HG1.out; show w.heap.size + 1 ≠ W0.heap.size; omega) _); have L4 : Hid (Blk w4 W0.heap.size 46 (scC u b A3 n c3 k).toArray) := (by unfold Hid; rw [hw4]; have := L3.out.set_ 2 (.slice A3 n c3); rw [List.setIfInBounds_toArray] at this; exact this); have I4 : Hid (IR w4 A3 c3 l) := (by unfold Hid; rw [hw4]; exact (O3.out.far (p := ⟨W0.heap.size, 2, none⟩) HG1.out.2 _).ir (by have := HN.out; simp; omega) (by rw [List.nil_append]; exact H.out.2)); have HW4 := Lib.hid hw4; clear hon3 hbl3 hw4; simp only [Nat.zero_add])
    | (rw [← HW4.out])
    | (refine wpList_load_row rfl 46 (.tmp 9) rfl W0.heap.size rfl 46 (scC u b A3 n c3 k).toArray (0, 0) _ L4.out Tryz.underlying46 rfl (HINF.out _ _) ?_)
    | (go_at_call 28; (with_reducible refine (HCH1.out _ _ _ I4.out D4.out).mono ?_); rintro e w5 ⟨X1, x1, Z1, z1, rfl, g1, g2, hb⟩; have D5 := Lib.hid (bel_on D4.out hb); have S5 := Lib.hid (S4.out.below' hb); have T5 := Lib.hid (T4.out.below' hb); have L5 := Lib.hid (L4.out.below' hb); have I5 := Lib.hid (I4.out.below hb); have A5 := Lib.hid g1; have B5 := Lib.hid g2; clear g1 g2 hb)
    | (refine wpList_store_row rfl 27 (.tmp 10) (.tmp 29) rfl w5.heap.size #[.slice X1 n1 x1, .slice Z1 n2 z1] rfl rfl 27 #[.slice none 0 0, .slice none 0 0] (Blk.new w5 _ _) (by kernel_rfl) rfl (by simp [Value.oneCell']) ?_; obtain ⟨w6, hV⟩ : ∃ W, W = (w5.alloc (.cells #[.slice none 0 0, .slice none 0 0] 27)).setRow w5.heap.size #[.slice X1 n1 x1, .slice Z1 n2 z1] := ⟨_, rfl⟩; rw [← hV]; obtain ⟨gb, nb⟩ := box2_ _ _ _ _ hV; have D6 := Lib.hid (bel_on D5.out gb); have S6 := Lib.hid (S5.out.below' gb); have T6 := Lib.hid (T5.out.below' gb); have L6 := Lib.hid (L5.out.below' gb); have I6 := Lib.hid (I5.out.below gb); have A6 := Lib.hid (A5.out.below gb); have B6 := Lib.hid (B5.out.below gb); have G6 := Lib.hid nb; clear hV gb nb)
    | (refine wpList_load_row rfl 46 (.tmp 4) rfl w.heap.size rfl 46 (scC u b A n c k).toArray (0, 0) _ S6.out Tryz.underlying46 rfl (HINF.out _ _) ?_)
    | (go_at_call 29; (with_reducible refine (HCH2.out _ D6.out).mono ?_); rintro e w7 ⟨X3, x3, Z3, z3, rfl, g1, g2, hb⟩; have D7 := Lib.hid (bel_on D6.out hb); have S7 := Lib.hid (S6.out.below' hb); have T7 := Lib.hid (T6.out.below' hb); have L7 := Lib.hid (L6.out.below' hb); have I7 := Lib.hid (I6.out.below hb); have A7 := Lib.hid (A6.out.below hb); have B7 := Lib.hid (B6.out.below hb); have G7 := Lib.hid (G6.out.below' hb); have P7 := Lib.hid g1; have Q7 := Lib.hid g2; clear g1 g2 hb)
    | (refine wpList_store_row rfl 27 (.tmp 12) (.tmp 36) rfl w7.heap.size #[.slice X3 n1 x3, .slice Z3 n2 z3] rfl rfl 27 #[.slice none 0 0, .slice none 0 0] (Blk.new w7 _ _) (by kernel_rfl) rfl (by simp [Value.oneCell']) ?_; obtain ⟨w8, hV⟩ : ∃ W, W = (w7.alloc (.cells #[.slice none 0 0, .slice none 0 0] 27)).setRow w7.heap.size #[.slice X3 n1 x3, .slice Z3 n2 z3] := ⟨_, rfl⟩; rw [← hV]; obtain ⟨gb, nb⟩ := box2_ _ _ _ _ hV; have D8 := Lib.hid (bel_on D7.out gb); have S8 := Lib.hid (S7.out.below' gb); have T8 := Lib.hid (T7.out.below' gb); have L8 := Lib.hid (L7.out.below' gb); have I8 := Lib.hid (I7.out.below gb); have A8 := Lib.hid (A7.out.below gb); have B8 := Lib.hid (B7.out.below gb); have G8 := Lib.hid (G7.out.below' gb); have P8 := Lib.hid (P7.out.below gb); have Q8 := Lib.hid (Q7.out.below gb); have J8 := Lib.hid nb; clear hV gb nb)
    | (refine wpList_load_row rfl 27 (.tmp 10) rfl (w5.heap.size) rfl 27 #[.slice X1 n1 x1, .slice Z1 n2 z1] (0, 0) _ G8.out Tryz.underlying27 rfl (by kernel_rfl) ?_)
    | (refine wpList_load_row rfl 27 (.tmp 12) rfl (w7.heap.size) rfl 27 #[.slice X3 n1 x3, .slice Z3 n2 z3] (0, 0) _ J8.out Tryz.underlying27 rfl (by kernel_rfl) ?_)
    | (go_at_call 30; (with_reducible refine (HSF.out _ _ _ _ _ _ _ _ _ A8.out B8.out P8.out Q8.out).mono ?_); rintro e w9 ⟨rfl, hb⟩; have D9 := Lib.hid (bel_on D8.out hb); have S9 := Lib.hid (S8.out.below' hb); have T9 := Lib.hid (T8.out.below' hb); have L9 := Lib.hid (L8.out.below' hb); have I9 := Lib.hid (I8.out.below hb); clear hb)
    | (refine wpList_load_row rfl 46 (.tmp 9) rfl W0.heap.size rfl 46 (scC u b A3 n c3 k).toArray (0, 0) _ L9.out Tryz.underlying46 rfl (HINF.out _ _) ?_)
    | (refine wpList_load_row rfl 27 (.tmp 7) rfl (w.heap.size + 1) rfl 27 #[.slice X lx cx, .slice Z lz cz] (0, 0) _ T9.out Tryz.underlying27 rfl (by kernel_rfl) ?_)
    | (go_at_call 31; (with_reducible refine (HB1.out _ _ _ I9.out D9.out).mono ?_); rintro e w10 ⟨rfl, hb⟩; have D10 := Lib.hid (bel_on D9.out hb); have S10 := Lib.hid (S9.out.below' hb); have T10 := Lib.hid (T9.out.below' hb); have L10 := Lib.hid (L9.out.below' hb); have I10 := Lib.hid (I9.out.below hb); clear hb)
    | (refine wpList_load_row rfl 46 (.tmp 4) rfl w.heap.size rfl 46 (scC u b A n c k).toArray (0, 0) _ S10.out Tryz.underlying46 rfl (HINF.out _ _) ?_)
    | (refine wpList_load_row rfl 27 (.tmp 7) rfl (w.heap.size + 1) rfl 27 #[.slice X lx cx, .slice Z lz cz] (0, 0) _ T10.out Tryz.underlying27 rfl (by kernel_rfl) ?_)
    | (go_at_call 32; (with_reducible refine (HB2.out _ D10.out).mono ?_); rintro e w11 ⟨rfl, hb⟩; have D11 := Lib.hid (bel_on D10.out hb); have S11 := Lib.hid (S10.out.below' hb); have T11 := Lib.hid (T10.out.below' hb); have L11 := Lib.hid (L10.out.below' hb); have I11 := Lib.hid (I10.out.below hb); clear hb)
    | (refine wpList_load_row rfl 46 (.tmp 9) rfl W0.heap.size rfl 46 (scC u b A3 n c3 k).toArray (0, 0) _ L11.out Tryz.underlying46 rfl (HINF.out _ _) ?_)
    | (refine wpList_load_row rfl 27 (.tmp 7) rfl (w.heap.size + 1) rfl 27 #[.slice X lx cx, .slice Z lz cz] (0, 0) _ T11.out Tryz.underlying27 rfl (by kernel_rfl) ?_)
    | (go_at_call 33; (with_reducible refine (HT1.out _ _ _ I11.out D11.out).mono ?_); rintro e w12 ⟨⟨M1, mc1, rfl, hm1⟩, hb⟩; have D12 := Lib.hid (bel_on D11.out hb); have S12 := Lib.hid (S11.out.below' hb); have T12 := Lib.hid (T11.out.below' hb); have L12 := Lib.hid (L11.out.below' hb); have I12 := Lib.hid (I11.out.below hb); have M12 := Lib.hid hm1; clear hb hm1)
    | (refine wpList_load_row rfl 46 (.tmp 4) rfl w.heap.size rfl 46 (scC u b A n c k).toArray (0, 0) _ S12.out Tryz.underlying46 rfl (HINF.out _ _) ?_)
    | (refine wpList_load_row rfl 27 (.tmp 7) rfl (w.heap.size + 1) rfl 27 #[.slice X lx cx, .slice Z lz cz] (0, 0) _ T12.out Tryz.underlying27 rfl (by kernel_rfl) ?_)
    | (go_at_call 34; (with_reducible refine (HT2.out _ D12.out).mono ?_); rintro e w13 ⟨⟨M2, mc2, rfl, hm2⟩, hb⟩; have D13 := Lib.hid (bel_on D12.out hb); have S13 := Lib.hid (S12.out.below' hb); have T13 := Lib.hid (T12.out.below' hb); have L13 := Lib.hid (L12.out.below' hb); have I13 := Lib.hid (I12.out.below hb); have M13 := Lib.hid (M12.out.below hb); have N13 := Lib.hid hm2; clear hb hm2)
    | (go_at_call 25; first | ((with_reducible refine (HSI.out _ _ _ _ _ _ _ HM1.out M13.out N13.out).mono ?_); rintro e w14 ⟨rfl, hb⟩; have D14 := Lib.hid (bel_on D13.out hb); have S14 := Lib.hid (S13.out.below' hb); have T14 := Lib.hid (T13.out.below' hb); have L14 := Lib.hid (L13.out.below' hb); have I14 := Lib.hid (I13.out.below hb); have k14 : w14.cell? ⟨W0.heap.size, 2, none⟩ = some (.slice A3 n c3) := L14.out.cell 2; have k15 : w14.cell? ⟨w.heap.size, 2, none⟩ = some (.slice A n c) := S14.out.cell 2; clear hb) | ((with_reducible refine (HSI.out _ _ _ _ _ _ _ HN.out I14.out (H.out.below D14.out)).mono ?_); rintro e w15 ⟨rfl, hb⟩; have D15 := Lib.hid (bel_on D14.out hb); clear hb)))
  go_ret
  exact ⟨by simp, D15.out⟩
end Go.Proofs.YtenpkmgbaajeeaaGreat
