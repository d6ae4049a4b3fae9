/-
  Lemmas and contracts, joined.
-/
import Derived.Deep.QuietTactic
import Derived.BigQuiet
import Derived.Test.YtenpkmgbaajeeaaGreatTwCodeTwoLevelsW1
import Derived.Test.YtenpkmgbaajeeaaGreatTwCs1
import Derived.Test.YtenpkmgbaajeeaaGreatTwCt1
import Derived.Test.YtenpkmgbaajeeaaGreatTwCa1
import Derived.Test.YtenpkmgbaajeeaaGreatTwCa2
set_option linter.unusedSimpArgs false
set_option linter.unusedVariables false
set_option linter.unnecessarySimpa false
/- A coalition within a group: in plain words. -/
namespace Go.Proofs.YtenpkmgbaajeeaaGreat
open Go.RowKit
set_option linter.unusedVariables false
set_option linter.unusedSimpArgs false

/-- The word of a member of a group. -/
def LevV.word (l : LevV) (g x : Nat) : List UInt8 := (l.part 0).word g ++ (l.part (g + 1)).word x
theorem LevV.word_len (l : LevV) (g x : Nat) : (l.word g x).length = l.tot := by
  unfold LevV.word LevV.tot
  rw [List.length_append, StV.word_len, StV.word_len, l.part_n]
def LevV.wrds (l : LevV) (g : Nat) (xs : List Nat) : List (List UInt8) := xs.map (l.word g)
theorem LevV.wrds_len (l : LevV) (g : Nat) (xs : List Nat) : (l.wrds g xs).length = xs.length := by simp [LevV.wrds]
theorem LevV.wrds_get (l : LevV) (g : Nat) {xs : List Nat} {j : Nat} (h : j < xs.length) : (l.wrds g xs).getD j [] = l.word g xs[j] := by
  simp [LevV.wrds, List.getD_eq_getElem?_getD, List.getElem?_eq_getElem h]
theorem LevV.wrds_hd (l : LevV) (g : Nat) {xs : List Nat} (h : 0 < xs.length) : hd (l.wrds g xs) = l.word g xs[0] := l.wrds_get g h
theorem LevV.word_bit (l : LevV) (g x i : Nat) : bt (l.word g x) i ≤ 1 := by
  unfold LevV.word bt
  rw [List.getD_eq_getElem?_getD, List.getElem?_append]
  split
  · have := (l.part 0).word_bit g i
    unfold bt at this
    rwa [List.getD_eq_getElem?_getD] at this
  · have := (l.part (g + 1)).word_bit x (i - ((l.part 0).word g).length)
    unfold bt at this
    rwa [List.getD_eq_getElem?_getD] at this
theorem two_bit (l : LevV) (g : Nat) {xs : List Nat} (h : 0 < xs.length) (i : Nat) : bt (hd (l.wrds g xs)) i ≤ 1 := by rw [l.wrds_hd g h]; exact l.word_bit _ _ _
theorem two_copy (l : LevV) (g : Nat) {xs : List Nat} (h : 0 < xs.length) {y : List UInt8} {n : Nat} (hy : copyB y n = true) (k : Nat) : copyB (bring (l.wrds g xs) y n k) n = true := by
  obtain ⟨hyn, hcy⟩ := copyB_sym hy
  unfold copyB
  rw [Bool.and_eq_true, decide_eq_true_eq]
  refine ⟨bring_len _ _ _ _, symB_iff.2 fun i hi => ?_⟩
  rw [bring_len] at hi
  unfold bt
  rw [bring_get _ _ _ _ _ hi]
  split
  · exact Nat.le_trans (two_bit l g h i) (by omega)
  · exact hcy i hi
/-- The first half of the copy is the group's word. -/
theorem two_half (l : LevV) (g : Nat) {xs : List Nat} (h : 0 < xs.length) (y : List UInt8) : (bring (l.wrds g xs) y l.tot l.tot).take l.half = (l.part 0).word g := by
  have hle : l.half ≤ l.tot := by unfold LevV.half LevV.tot; omega
  have hw : ((l.part 0).word g).length = l.half := by rw [StV.word_len]; rfl
  have hfst : ∀ x j, j < l.half → (l.word g x).getD j 0 = ((l.part 0).word g).getD j 0 := fun x j hj => by
    unfold LevV.word
    rw [List.getD_eq_getElem?_getD, List.getElem?_append_left (by omega), List.getD_eq_getElem?_getD]
  refine List.ext_getElem (by rw [List.length_take, bring_len, hw]; omega) fun j h1 h2 => ?_
  have hj : j < l.half := by omega
  rw [List.getElem_take]
  have e1 : (bring (l.wrds g xs) y l.tot l.tot)[j]'(by rw [bring_len]; omega) = (bring (l.wrds g xs) y l.tot l.tot).getD j 0 := by
    rw [List.getD_eq_getElem?_getD, List.getElem?_eq_getElem (by rw [bring_len]; omega)]; rfl
  have e2 : ((l.part 0).word g)[j] = ((l.part 0).word g).getD j 0 := by
    rw [List.getD_eq_getElem?_getD, List.getElem?_eq_getElem h2]; rfl
  have hag : agreeK (l.wrds g xs) j (l.wrds g xs).length = true := agreeK_iff.2 fun k hk => by
    rw [l.wrds_len] at hk
    rw [l.wrds_get g hk, l.wrds_hd g h]
    unfold bt
    rw [hfst _ j hj, hfst _ j hj]
  rw [e1, e2, bring_get _ _ _ _ _ (by omega), if_pos ⟨by omega, hag⟩, l.wrds_hd g h]
  exact hfst _ j hj
/-- The accused. -/
theorem two_acc {l : LevV} (hok : l.ok = true) {d m : Nat} (hd_ : l.b = (d : Int)) (hu : l.g = ((m + 1 : Nat) : Int)) (h1 : 1 ≤ d) (hm : 1 ≤ m) {g : Nat} (hg : g ≤ m) (hth : 0 ≤ (l.part 0).th d) {xs : List Nat} (h : 0 < xs.length) (y : List UInt8) :
    l.acc (bring (l.wrds g xs) y l.tot l.tot) = prs (g : Int) (l.mem (bring (l.wrds g xs) y l.tot l.tot) (g : Int)) := by
  have hok0 := LevV.ok_part hok 0
  have hn : (l.part 0).n = m * d := by
    obtain ⟨-, -, b3⟩ := StV.n_le hok0
    have e0 : (l.part 0).u = l.g := rfl
    have e2 : (l.part 0).b = l.b := rfl
    rw [e0, e2, hu, hd_] at b3
    have : ((m + 1 : Nat) : Int) - 1 = (m : Int) := by omega
    rw [this, ← Int.natCast_mul] at b3
    omega
  have hgr : l.grs (bring (l.wrds g xs) y l.tot l.tot) = [(g : Int)] := by
    unfold LevV.grs
    rw [two_half l g h y]
    exact lone_names hok0 hd_ hu hn h1 hm hg hth
  unfold LevV.acc
  rw [hgr]
  simp
theorem two_some {l : LevV} (hok : l.ok = true) (z : List UInt8) (g : Nat) (hc : (l.part (g + 1)).cmp = true) : ∀ x ∈ l.mem z (g : Int), 0 ≤ x := fun x hx => by
  unfold LevV.mem at hx
  rw [Int.toNat_natCast] at hx
  have hs := StV.nms_some (LevV.ok_part hok (g + 1)) (z.drop l.half) hc
  unfold usS at hx
  rw [if_neg (by intro e; rw [e] at hs; simp at hs)] at hx
  obtain ⟨u, -, -, rfl⟩ := namesF_mem.1 hx
  omega
theorem usS_pos (us : List Int) : 0 < (usS us).length := by
  unfold usS
  split
  · simp
  · rename_i h; exact List.length_pos_iff.2 h
theorem mem_bd {l : LevV} (hok : l.ok = true) (z : List UInt8) (g : Int) : ∀ x ∈ l.mem z g, -1 ≤ x ∧ x ≤ 16 := fun x hx => by
  unfold LevV.mem usS at hx
  split at hx
  · simp at hx; omega
  · have := (StV.nms_small (LevV.ok_part hok _) (z.drop l.half)).2 x hx; omega
theorem one_cmp {s : StV} (hok : s.ok = true) {d : Nat} (hd : s.b = (d : Int)) : cmpFS (lowS (divsN d d 1) (bin (2 * d) d)).1 (lowS (divsN d d 1) (bin (2 * d) d)).2 s.x s.y = (cmpN (divsN d d 1 * val s.y) (val s.x * bin (2 * d) d), 0) ∧ (cmpN (divsN d d 1 * val s.y) (val s.x * bin (2 * d) d) ≤ 0 ↔ 0 ≤ s.th d) := by
  obtain ⟨⟨q1, q2, q3, q4⟩, hl⟩ := StV.parts hok
  obtain ⟨hv, h2, h3, h4⟩ := limB_iff.1 hl
  refine ⟨low_cmp (bin_ne d) (divs_sm (by omega) (by omega) (by omega)) (bin_sm (by omega)) hv, ?_⟩
  rw [cmpN_le0]
  have h5 := thS_neg d d (val s.x) (val s.y)
  have e : s.th d = thS d d (val s.x) (val s.y) := by unfold StV.th; rw [hd, Int.toNat_natCast]
  rw [e]
  unfold underB at h5
  rw [decide_eq_false_iff_not] at h5
  constructor
  · intro g
    rcases Int.lt_or_le (thS d d (val s.x) (val s.y)) 0 with g2 | g2
    · exact absurd g (h5.1 g2)
    · exact g2
  · intro g
    apply Classical.byContradiction
    intro g2
    have := h5.2 g2
    omega
end Go.Proofs.YtenpkmgbaajeeaaGreat

/- The word of a member of a group, in memory of its own. -/
namespace Go.Proofs.YtenpkmgbaajeeaaGreat
open Go.RowKit
set_option linter.unusedVariables false
set_option linter.unusedSimpArgs false

set_option maxHeartbeats 4000000 in
set_option maxRecDepth 1000000 in
theorem LevelWord_own (l : LevV) (g m : Int) (w : World) (h : LevOK w l) (hg1 : -9223372036854775808 ≤ g) (hg2 : g ≤ 9223372036854775807) (hm1 : -9223372036854775808 ≤ m) (hm2 : m ≤ 9223372036854775807) :
    Calls Tryz.prog 35 #[.agg l.cs.toArray, .int .i64 g, .int .i64 m] w fun e w' => WordOwn w.heap.size (l.wordR g m) e w' ∧ Below w.heap.size w w' := by
  have hk := h.k16
  obtain ⟨W0, hW0⟩ : ∃ W : World, W = w.alloc (.cells l.cs.toArray 60) := ⟨_, rfl⟩
  have b0 : Hid (Below w.heap.size w W0) := by unfold Hid; rw [hW0]; exact alloc_below _ _
  have x0 : Hid (Blk W0 w.heap.size 60 l.cs.toArray) := by unfold Hid; rw [hW0]; exact Blk.new w _ _
  have HW0 := Lib.hid hW0
  have HIN := Lib.hid (infoV (LevV.len hk))
  have HX : Hid (∀ W, Below W0.heap.size W0 W → Blk W w.heap.size 60 l.cs.toArray) := fun W hW => x0.out.below' hW
  have HC : Hid (∀ W, Below W0.heap.size W0 W → W.cell? ⟨w.heap.size, 0, none⟩ = some (.int .i64 l.g) ∧ W.cell? ⟨w.heap.size, 1, none⟩ = some (.int .i64 l.m) ∧ W.cell? ⟨w.heap.size, 2, none⟩ = some (.int .i64 l.b)) := fun W hW => by
    obtain ⟨c0, c1, c2, -, -⟩ := LevV.cells hk (x0.out.below' hW)
    exact ⟨c0, c1, c2⟩
  have HCK : Hid (∀ W, Below w.heap.size w W → Calls Tryz.prog 37 #[.agg l.cs.toArray] W fun e w' => e = .returned (.int .i64 (ckSt l.ok)) ∧ Below W.heap.size W w') := fun W hW => CheckLevels_any l W (h.below hW)
  cases hok : l.ok with
  | false =>
    rw [hok, show ckSt false = 70 from rfl] at HCK
    have HR : Hid (l.wordR g m = ([], 70)) := by unfold Hid LevV.wordR; rw [if_pos hok]
    generalize l.wordR g m = r at HR ⊢
    generalize l.cs = cs at *
    clear h hok hk hW0
    go_enter Tryz.func35, Tryz.ntmps35
    go_wp2_with (first
      | (rw [← HW0.out])
      | (refine wpList_load_row rfl 60 (.tmp 3) rfl (w.heap.size) rfl 60 cs.toArray (0, 0) _ x0.out Tryz.underlying60 rfl HIN.out ?_)
      | (go_at_call 37; (with_reducible refine (HCK.out _ b0.out).mono ?_); rintro e w1 ⟨rfl, hb⟩; have D1 := Lib.hid (bel_on b0.out hb); have G1 := Lib.hid hb; have x1 := Lib.hid (HX.out _ hb); obtain ⟨c0, c1, -⟩ := HC.out _ hb; clear hb))
    go_ret2
    exact ⟨wordOwn_nil _ _ _ HR.out, D1.out⟩
  | true =>
    rw [hok, show ckSt true = 0 from rfl] at HCK
    obtain ⟨q1, q2, q3, q4, q5, q6⟩ := LevV.bounds hok
    by_cases hin : 0 ≤ g ∧ g < l.g ∧ 0 ≤ m ∧ m < l.m
    · obtain ⟨g0, gl, m0, ml⟩ := hin
      obtain ⟨gn, rfl⟩ : ∃ n : Nat, g = (n : Int) := ⟨g.toNat, by omega⟩
      obtain ⟨mn, rfl⟩ : ∃ n : Nat, m = (n : Int) := ⟨m.toNat, by omega⟩
      have HR : Hid (l.wordR (gn : Int) (mn : Int) = ((l.part 0).word gn ++ (l.part (gn + 1)).word mn, 0)) := by
        unfold Hid LevV.wordR
        rw [if_neg (by rw [hok]; simp), if_neg (by omega), Int.toNat_natCast, Int.toNat_natCast]
      obtain ⟨n1, hn1⟩ : ∃ n, (l.part 0).n = n := ⟨_, rfl⟩
      obtain ⟨n2, hn2⟩ : ∃ n, (l.part (gn + 1)).n = n := ⟨_, rfl⟩
      have hb1 : n1 ≤ 960 := by rw [← hn1]; exact (StV.n_le (LevV.ok_part hok 0)).2.1
      have hb2 : n2 ≤ 960 := by rw [← hn2]; exact (StV.n_le (LevV.ok_part hok (gn + 1))).2.1
      have HL1 : Hid (((l.part 0).word gn).length = n1) := by unfold Hid; rw [← hn1]; exact StV.word_len _ _
      have HL2 : Hid (((l.part (gn + 1)).word mn).length = n2) := by unfold Hid; rw [← hn2]; exact StV.word_len _ _
      have HW1_ : Hid (∀ W, Below w.heap.size w W → Calls Tryz.prog 19 #[.agg (l.part 0).cs.toArray, .int .i64 (gn : Int)] W fun e w' => (∃ A c, e = .returned (.tuple #[.slice A n1 c, .int .i64 0]) ∧ OB W.heap.size w' A c ((l.part 0).word gn)) ∧ Below W.heap.size W w') := fun W hW => by
        refine (StepWord_own _ _ W ((h.part 0).below hW) (by omega) (by omega)).mono ?_
        rintro e w' ⟨⟨A, c, he, ho⟩, hb⟩
        have hr : (l.part 0).wordR (gn : Int) = ((l.part 0).word gn, 0) := by
          unfold StV.wordR
          have : (l.part 0).u = l.g := rfl
          rw [if_neg (by rw [LevV.ok_part hok 0]; simp), if_neg (by rw [this]; omega), Int.toNat_natCast]
        rw [hr] at he ho
        exact ⟨⟨A, c, by rw [he, ← HL1.out], ho⟩, hb⟩
      have HW2_ : Hid (∀ W, Below w.heap.size w W → Calls Tryz.prog 19 #[.agg (l.part (gn + 1)).cs.toArray, .int .i64 (mn : Int)] W fun e w' => (∃ A c, e = .returned (.tuple #[.slice A n2 c, .int .i64 0]) ∧ OB W.heap.size w' A c ((l.part (gn + 1)).word mn)) ∧ Below W.heap.size W w') := fun W hW => by
        refine (StepWord_own _ _ W ((h.part (gn + 1)).below hW) (by omega) (by omega)).mono ?_
        rintro e w' ⟨⟨A, c, he, ho⟩, hb⟩
        have hr : (l.part (gn + 1)).wordR (mn : Int) = ((l.part (gn + 1)).word mn, 0) := by
          unfold StV.wordR
          have : (l.part (gn + 1)).u = l.m := rfl
          rw [if_neg (by rw [LevV.ok_part hok (gn + 1)]; simp), if_neg (by rw [this]; omega), Int.toNat_natCast]
        rw [hr] at he ho
        exact ⟨⟨A, c, by rw [he, ← HL2.out], ho⟩, hb⟩
      have HP0 : Hid (∀ W, Below w.heap.size w W → Calls Tryz.prog 91 #[.agg l.cs.toArray, .int .i64 0] W fun e w' => e = .returned (.agg (l.part 0).cs.toArray) ∧ Below W.heap.size W w') := fun W hW => part_any l 0 W (h.below hW) (by omega)
      have HP1 : Hid (∀ W, Below w.heap.size w W → Calls Tryz.prog 91 #[.agg l.cs.toArray, .int .i64 (1 + (gn : Int))] W fun e w' => e = .returned (.agg (l.part (gn + 1)).cs.toArray) ∧ Below W.heap.size W w') := fun W hW => by
        have := part_any l (gn + 1) W (h.below hW) (by omega)
        rwa [show ((gn + 1 : Nat) : Int) = 1 + (gn : Int) from by omega] at this
      have e1 : IntKind.i64.wrap (1 + (gn : Int)) = 1 + (gn : Int) := by rw [IntKind.wrap_i64]; omega
      have HF : Hid (∀ r e w', r = ((l.part 0).word gn ++ (l.part (gn + 1)).word mn, (0 : Int)) → (∃ A c, e = .returned (.tuple #[.slice A (n1 + n2) c, .int .i64 0]) ∧ OB w.heap.size w' A c ((l.part 0).word gn ++ (l.part (gn + 1)).word mn)) → WordOwn w.heap.size r e w') := fun r e w' hr ⟨A, c, he, hB⟩ => by
        subst hr
        have hl : ((l.part 0).word gn ++ (l.part (gn + 1)).word mn).length = n1 + n2 := by rw [List.length_append, HL1.out, HL2.out]
        exact ⟨A, c, by rw [he, hl], hB⟩
      generalize l.wordR (gn : Int) (mn : Int) = r at HR ⊢
      generalize (l.part 0).word gn = o1 at *
      generalize (l.part (gn + 1)).word mn = o2 at *
      generalize (l.part 0).cs = p0 at *
      generalize (l.part (gn + 1)).cs = p1 at *
      generalize l.g = G at *
      generalize l.m = M at *
      generalize l.cs = cs at *
      have z1 : ¬ ((gn : Int) < 0) := by omega
      have z2 : ¬ (G ≤ (gn : Int)) := by omega
      have z3 : ¬ ((mn : Int) < 0) := by omega
      have z4 : ¬ (M ≤ (mn : Int)) := by omega
      clear h hok hk hW0 hn1 hn2 g0 m0 gl ml
      go_enter Tryz.func35, Tryz.ntmps35
      go_wp2_with (first
        | (rw [← HW0.out])
        | (refine wpList_load_row rfl 60 (.tmp 3) rfl (w.heap.size) rfl 60 cs.toArray (0, 0) _ x0.out Tryz.underlying60 rfl HIN.out ?_)
        | (refine wpList_load_row rfl 60 (.tmp 3) rfl (w.heap.size) rfl 60 cs.toArray (0, 0) _ x1.out Tryz.underlying60 rfl HIN.out ?_)
        | (refine wpList_load_row rfl 60 (.tmp 3) rfl (w.heap.size) rfl 60 cs.toArray (0, 0) _ x3.out Tryz.underlying60 rfl HIN.out ?_)
        | (go_at_call 37; (with_reducible refine (HCK.out _ b0.out).mono ?_); rintro e w1 ⟨rfl, hb⟩; have D1 := Lib.hid (bel_on b0.out hb); have G1 := Lib.hid hb; have x1 := Lib.hid (HX.out _ hb); obtain ⟨c0, c1, -⟩ := HC.out _ hb; clear hb)
        | (go_at_call 91; (with_reducible refine (HP0.out _ D1.out).mono ?_); rintro e w2 ⟨rfl, hb⟩; have D2 := Lib.hid (bel_on D1.out hb); have G2 := Lib.hid (bel_on G1.out hb); clear hb)
        | (go_at_call 19; (with_reducible refine (HW1_.out _ D2.out).mono ?_); rintro e w3 ⟨⟨A1, c1', rfl, ho⟩, hb⟩; have D3 := Lib.hid (bel_on D2.out hb); have G3 := Lib.hid (bel_on G2.out hb); have O3 := Lib.hid (ho.le_ D2.out.size); have x3 := Lib.hid (HX.out _ G3.out); clear hb ho)
        | (go_at_call 91; (with_reducible refine (HP1.out _ D3.out).mono ?_); rintro e w4 ⟨rfl, hb⟩; have D4 := Lib.hid (bel_on D3.out hb); have O4 := Lib.hid (O3.out.below hb); clear hb)
        | (go_at_call 19; (with_reducible refine (HW2_.out _ D4.out).mono ?_); rintro e w5 ⟨⟨A2, c2', rfl, ho⟩, hb⟩; have D5 := Lib.hid (bel_on D4.out hb); have O5 := Lib.hid (O4.out.below hb); have Q5 := Lib.hid (ho.le_ D4.out.size); clear hb ho)
        | (at_builtin; refine wpList_append_bytes _ rfl (.tmp 52) (.tmp 53) rfl w.heap.size A1 n1 c1' o1 HL1.out rfl O5.out A2 n2 c2' o2 HL2.out rfl ((Q5.out.br (by rw [HL2.out]; omega)).src HL2.out) (by omega) D5.out.size ?_; intro A6 c6 w6 ho6 hb6 hg6; have O6 := Lib.hid ho6; have D6 := Lib.hid (D5.out.trans hb6); clear ho6 hb6 hg6))
      all_goals first | omega | (go_ret2; exact ⟨HF.out _ _ _ HR.out ⟨A6, c6, rfl, O6.out⟩, D6.out⟩)
    · have HR : Hid (l.wordR g m = ([], 2)) := by
        unfold Hid LevV.wordR
        rw [if_neg (by rw [hok]; simp), if_pos (by omega)]
      generalize l.wordR g m = r at HR ⊢
      generalize l.g = G at *
      generalize l.m = M at *
      generalize l.cs = cs at *
      clear h hok hk hW0
      go_enter Tryz.func35, Tryz.ntmps35
      go_wp2_with (first
        | (rw [← HW0.out])
        | (refine wpList_load_row rfl 60 (.tmp 3) rfl (w.heap.size) rfl 60 cs.toArray (0, 0) _ x0.out Tryz.underlying60 rfl HIN.out ?_)
        | (go_at_call 37; (with_reducible refine (HCK.out _ b0.out).mono ?_); rintro e w1 ⟨rfl, hb⟩; have D1 := Lib.hid (bel_on b0.out hb); have G1 := Lib.hid hb; have x1 := Lib.hid (HX.out _ hb); obtain ⟨c0, c1, -⟩ := HC.out _ hb; clear hb))
      all_goals first | omega | (go_ret2; exact ⟨wordOwn_nil _ _ _ HR.out, D1.out⟩)
end Go.Proofs.YtenpkmgbaajeeaaGreat

/- Rows of bytes of one's own: stores. -/
namespace Go.Proofs.YtenpkmgbaajeeaaGreat
open Go.RowKit
set_option linter.unusedVariables false

theorem OB.room {B : Nat} {w : World} {A : Option Addr} {c : Nat} {l : List UInt8} (h : OB B w A c l) {i : Nat} (hi : i < l.length) : ∃ g, A = some ⟨g, 0, none⟩ ∧ B ≤ g ∧ g < w.heap.size ∧ w.cell? ⟨g, i, none⟩ = some (.int .u8 (bt l i : Int)) ∧ w.frozen? ⟨g, i, none⟩ = false ∧
    ∀ v : UInt8, OB B (w.setCell ⟨g, i, none⟩ (.int .u8 (v.toNat : Int))) A c (l.set i v) := by
  rcases h.2 with ⟨_, h0⟩ | ⟨g, cap, cur, hv, hB, hh, hnc, hm, hs, ht⟩
  · exact absurd h0 (by omega)
  · injection hv with h1 _ h3
    subst h1 h3
    have hb : Blk w g 5 cur := hh
    have hle : l.length ≤ cur.size := by rw [hs]; omega
    have hcur : cur[i]? = (cellsB l)[i]? := by
      rw [← ht, List.getElem?_take, if_pos (by omega)]; simp
    refine ⟨g, rfl, hB, hb.lt, ?_, hb.frozen i, fun v => ⟨by simp [cellsB], .inr ⟨g, _, cur.setIfInBounds i (.int .u8 (v.toNat : Int)), by rw [List.length_set], hB, hb.set_ i _, by rw [List.length_set]; exact hnc, hm, by rw [Array.size_setIfInBounds]; exact hs, ?_⟩⟩⟩
    · rw [hb.cell i, hcur, cellsB_get l i hi]
      simp [bt, List.getD, List.getElem?_eq_getElem hi]
    · rw [List.length_set, cellsB_set, ← ht, Array.toList_setIfInBounds, List.take_set]
/-- A store into another block leaves the row. -/
theorem OB.other {B : Nat} {w : World} {g c : Nat} {l : List UInt8} (h : OB B w (some ⟨g, 0, none⟩) c l) {p : Addr} (hp : g ≠ p.block) (u : Value) : OB B (w.setCell p u) (some ⟨g, 0, none⟩) c l := by
  refine World.ownsRow.kept h (⟨rfl, rfl, rfl, by simp, fun k hk hne => Below.heap_setCell w p u k (by simpa using hne)⟩ : w.grownBy (w.setCell p u) (some p.block)) ?_
  by_cases hv : (Value.slice (some ⟨g, 0, none⟩) l.length c).ownBlock = none
  · exact .inl hv
  · refine .inr fun e => hp ?_
    simp [Value.ownBlock] at e
    omega
theorem OB.drN {B : Nat} {w : World} {A : Option Addr} {c : Nat} {l : List UInt8} (h : OB B w A c l) (m : Nat) : OB B (w.drewN m) A c l := h
end Go.Proofs.YtenpkmgbaajeeaaGreat

/- The law CodeTwoLevels: the walk. -/
namespace Go.Proofs.YtenpkmgbaajeeaaGreat
open Go.RowKit
set_option linter.unusedVariables false
set_option linter.unusedSimpArgs false

theorem wrds_snoc2 (l : LevV) (g : Nat) {C u : Nat} (h : C.testBit u = true) : l.wrds g (coal C (u + 1)) = l.wrds g (coal C u) ++ [l.word g u] := by rw [coal, if_pos h]; simp [LevV.wrds]
theorem coal_yes {C u : Nat} (h : C.testBit u = true) : (coal C (u + 1)).length = (coal C u).length + 1 := by rw [coal, if_pos h]; simp
theorem coal_no {C u : Nat} (h : C.testBit u = false) : coal C (u + 1) = coal C u := by rw [coal, if_neg (by rw [h]; simp)]
theorem and_u16 {a b : Nat} (ha : a < 65536) (hb : b < 65536) : bits BinOp.and IntKind.u16 (a : Int) (b : Int) = ((a &&& b : Nat) : Int) := by
  have e : ∀ n : Nat, n < 65536 → (BitVec.ofInt 16 (n : Int)).toNat = n := fun n hn => by
    rw [BitVec.ofInt_natCast, BitVec.toNat_ofNat, Nat.mod_eq_of_lt hn]
  show IntKind.u16.wrap (((BitVec.ofInt 16 (a : Int)) &&& (BitVec.ofInt 16 (b : Int))).toNat : Int) = _
  rw [BitVec.toNat_and, e a ha, e b hb, IntKind.wrap_u16]
  have := Nat.lt_of_le_of_lt (Nat.and_le_left (n := a) (m := b)) ha
  omega
/-- One bit of a coalition, as the program takes it. -/
theorem bit_u16 {C : Nat} (hC : C < 65536) (u : Nat) : ∃ q bb : Nat, (C : Int) / (2 : Int) ^ u = (q : Int) ∧ bits BinOp.and IntKind.u16 (q : Int) 1 = (bb : Int) ∧ (bb = 0 ∨ bb = 1) ∧ C.testBit u = decide (bb = 1) ∧ q < 65536 := by
  have hq : C / 2 ^ u < 65536 := Nat.lt_of_le_of_lt (Nat.div_le_self _ _) hC
  have h2 : C / 2 ^ u % 2 < 2 := Nat.mod_lt _ (by omega)
  refine ⟨C / 2 ^ u, C / 2 ^ u % 2, by rw [Int.natCast_ediv]; simp, ?_, by omega, Nat.testBit_eq_decide_div_mod_eq, hq⟩
  have := and_u16 (a := C / 2 ^ u) (b := 1) hq (by decide)
  rw [Nat.and_one_is_mod] at this
  exact this
set_option maxHeartbeats 16000000 in
set_option maxRecDepth 100000 in
theorem codeTwo_walk0 (l : LevV) (gg : Int) (C : Nat) (Y : Option Addr) (d : Nat) (y : List UInt8) (w0 : World) (h0 : LevOK w0 l) (hg1 : -9223372036854775808 ≤ gg) (hg2 : gg ≤ 9223372036854775807) (hC : C < 65536) (hy0 : BR w0 Y d y) :
    Calls Tryz.prog 18 #[.agg l.cs.toArray, .int .i64 gg, .int .u16 (C : Int), .slice Y y.length d] w0 fun e w' => e = .returned (.bool true) ∧ Below w0.heap.size w0 w' := by
  obtain ⟨ny, hyl⟩ : ∃ n, y.length = n := ⟨_, rfl⟩
  rw [hyl]
  have hk := h0.k16
  obtain ⟨w, hW0⟩ : ∃ W : World, W = w0.alloc (.cells l.cs.toArray 60) := ⟨_, rfl⟩
  have b0 : Hid (Below w0.heap.size w0 w) := by unfold Hid; rw [hW0]; exact alloc_bel _ _
  have HX : Hid (∀ W, Below w.heap.size w W → Blk W w0.heap.size 60 l.cs.toArray) := fun W hW => Blk.below' (by rw [hW0]; exact Blk.new w0 _ _) hW
  have h := h0.below b0.out
  have HW0 := Lib.hid hW0
  have HIN := Lib.hid (infoV (LevV.len hk))
  have K0 : Hid (Below w.heap.size w w) := Below.refl _ _
  have hy := hy0.below b0.out
  have HCL : Hid (∀ W, Below w.heap.size w W → W.cell? ⟨w0.heap.size, 0, none⟩ = some (.int .i64 l.g) ∧ W.cell? ⟨w0.heap.size, 1, none⟩ = some (.int .i64 l.m) ∧ W.cell? ⟨w0.heap.size, 2, none⟩ = some (.int .i64 l.b) ∧ W.cell? ⟨w0.heap.size, 19, none⟩ = some (.slice l.A l.x.length l.ca) ∧ W.cell? ⟨w0.heap.size, 20, none⟩ = some (.slice l.Bd l.y.length l.cb)) := fun W hW => by
    obtain ⟨g0, g1, g2, -, g3⟩ := LevV.cells hk (HX.out W hW)
    exact ⟨g0, g1, g2, g3 0 _ rfl, g3 1 _ rfl⟩
  have HVS : Hid (∀ W, Below w.heap.size w W → Calls Tryz.prog 64 #[.agg l.cs.toArray] W fun e w' => e = .returned (.bool l.ok) ∧ Below W.heap.size W w') := fun W hW => refValidLevels_any l W (h.below hW)
  cases hok : l.ok
  · rw [hok] at HVS
    generalize l.cs = cs at *
    generalize l.x.length = lx at *
    generalize l.y.length = ly at *
    generalize l.g = xg at *
    generalize l.m = xm at *
    generalize l.b = xb at *
    clear hok hW0 h h0 hk hC hy hy0
    go_enter Tryz.func18, Tryz.ntmps18
    go_wp2_with (rw [← HW0.out])
    refine (alive_any _).mono ?_
    rintro e w1 ⟨rfl, hb1⟩
    have K1 : Hid (Below w.heap.size w w1) := bel_on K0.out hb1
    obtain ⟨c0, c1, c2, c19, c20⟩ := HCL.out _ K1.out
    clear hb1
    go_wp2_with (refine wpList_load_row rfl 60 (.tmp 4) rfl w0.heap.size rfl 60 cs.toArray (0, 0) _ (HX.out _ K1.out) Tryz.underlying60 rfl HIN.out ?_)
    refine (HVS.out _ K1.out).mono ?_
    rintro e w2 ⟨rfl, hb2⟩
    have K2 : Hid (Below w.heap.size w w2) := bel_on K1.out hb2
    clear c0 c1 c2 c19 c20
    clear hb2
    go_wp2_with fail
    go_ret
    exact ⟨by simp, bel_on b0.out K2.out⟩
  rw [hok] at HVS
  obtain ⟨G1, G2, M1, M2, B1, B2⟩ := LevV.bounds hok
  obtain ⟨mg, hmg⟩ : ∃ q : Nat, l.g = ((q + 1 : Nat) : Int) := ⟨l.g.toNat - 1, by omega⟩
  obtain ⟨U, hU⟩ : ∃ q : Nat, l.m = (q : Int) := ⟨l.m.toNat, by omega⟩
  obtain ⟨D, hD⟩ : ∃ q : Nat, l.b = (q : Int) := ⟨l.b.toNat, by omega⟩
  obtain ⟨Gn, hGn⟩ : ∃ q, mg + 1 = q := ⟨_, rfl⟩
  obtain ⟨t1, t2, t3, t4, t5⟩ := LevV.tot_le hok
  obtain ⟨n, hn⟩ : ∃ q, l.tot = q := ⟨_, rfl⟩
  rw [hmg, hU, hD, hGn] at HCL
  rw [hn, hmg, hU, hD, hGn] at t5
  have hGi : (Gn : Int) ≤ 16 := by omega
  have hUi : (U : Int) ≤ 16 := by omega
  have hDi : (D : Int) ≤ 64 := by omega
  have hD1 : (1 : Int) ≤ D := by omega
  have hni : (n : Int) ≤ 1920 := by omega
  have em1 : ((Gn : Int) + (U : Int) - 2) * (D : Int) = (n : Int) := by rw [t5, ← Int.add_mul]; congr 1; omega
  have em2 : IntKind.i64.wrap (((Gn : Int) + (U : Int) - 2) * (D : Int)) = (n : Int) := by rw [em1, IntKind.wrap_i64]; omega
  have HCPY : Hid (∀ W, Below w.heap.size w W → Calls Tryz.prog 44 #[.slice Y ny d, .int .i64 (n : Int)] W fun e w' => e = .returned (.bool (copyB y n)) ∧ W = w') := fun W hW => refIsCopy_any Y d y n W hyl (hy.below hW) (by omega)
  have hGU : (2 : Int) ≤ Gn := by omega
  have hUU : (2 : Int) ≤ U := by omega
  by_cases hgl : gg < 0
  · generalize l.cs = cs at *
    generalize l.x.length = lx at *
    generalize l.y.length = ly at *
    clear hok hW0 h h0 hk hC hy hy0 hmg hU hD hGn hn G1 G2 M1 M2 B1 B2 t1 t2 t3 t4 t5 hg1 hg2
    go_enter Tryz.func18, Tryz.ntmps18
    go_wp2_with (rw [← HW0.out])
    refine (alive_any _).mono ?_
    rintro e w1 ⟨rfl, hb1⟩
    have K1 : Hid (Below w.heap.size w w1) := bel_on K0.out hb1
    obtain ⟨c0, c1, c2, c19, c20⟩ := HCL.out _ K1.out
    clear hb1
    go_wp2_with (refine wpList_load_row rfl 60 (.tmp 4) rfl w0.heap.size rfl 60 cs.toArray (0, 0) _ (HX.out _ K1.out) Tryz.underlying60 rfl HIN.out ?_)
    refine (HVS.out _ K1.out).mono ?_
    rintro e w2 ⟨rfl, hb2⟩
    have K2 : Hid (Below w.heap.size w w2) := bel_on K1.out hb2
    clear c0 c1 c2 c19 c20
    obtain ⟨c0, c1, c2, c19, c20⟩ := HCL.out _ K2.out
    clear hb2
    go_wp2_with fail
    go_ret
    exact ⟨by simp, bel_on b0.out K2.out⟩
  by_cases hgu : (Gn : Int) ≤ gg
  · generalize l.cs = cs at *
    generalize l.x.length = lx at *
    generalize l.y.length = ly at *
    clear hok hW0 h h0 hk hC hy hy0 hmg hU hD hGn hn G1 G2 M1 M2 B1 B2 t1 t2 t3 t4 t5 hg1 hg2
    go_enter Tryz.func18, Tryz.ntmps18
    go_wp2_with (rw [← HW0.out])
    refine (alive_any _).mono ?_
    rintro e w1 ⟨rfl, hb1⟩
    have K1 : Hid (Below w.heap.size w w1) := bel_on K0.out hb1
    obtain ⟨c0, c1, c2, c19, c20⟩ := HCL.out _ K1.out
    clear hb1
    go_wp2_with (refine wpList_load_row rfl 60 (.tmp 4) rfl w0.heap.size rfl 60 cs.toArray (0, 0) _ (HX.out _ K1.out) Tryz.underlying60 rfl HIN.out ?_)
    refine (HVS.out _ K1.out).mono ?_
    rintro e w2 ⟨rfl, hb2⟩
    have K2 : Hid (Below w.heap.size w w2) := bel_on K1.out hb2
    clear c0 c1 c2 c19 c20
    obtain ⟨c0, c1, c2, c19, c20⟩ := HCL.out _ K2.out
    clear hb2
    go_wp2_with fail
    go_ret
    exact ⟨by simp, bel_on b0.out K2.out⟩
  cases hc : copyB y n
  · rw [hc] at HCPY
    generalize l.cs = cs at *
    generalize l.x.length = lx at *
    generalize l.y.length = ly at *
    clear hok hW0 h h0 hk hC hy hy0 hmg hU hD hGn hn G1 G2 M1 M2 B1 B2 t1 t2 t3 t4 t5 hg1 hg2 hc
    go_enter Tryz.func18, Tryz.ntmps18
    go_wp2_with (rw [← HW0.out])
    refine (alive_any _).mono ?_
    rintro e w1 ⟨rfl, hb1⟩
    have K1 : Hid (Below w.heap.size w w1) := bel_on K0.out hb1
    obtain ⟨c0, c1, c2, c19, c20⟩ := HCL.out _ K1.out
    clear hb1
    go_wp2_with (refine wpList_load_row rfl 60 (.tmp 4) rfl w0.heap.size rfl 60 cs.toArray (0, 0) _ (HX.out _ K1.out) Tryz.underlying60 rfl HIN.out ?_)
    refine (HVS.out _ K1.out).mono ?_
    rintro e w2 ⟨rfl, hb2⟩
    have K2 : Hid (Below w.heap.size w w2) := bel_on K1.out hb2
    clear c0 c1 c2 c19 c20
    obtain ⟨c0, c1, c2, c19, c20⟩ := HCL.out _ K2.out
    clear hb2
    go_wp2_with fail
    refine (HCPY.out _ K2.out).mono ?_
    rintro e w3 ⟨rfl, rfl⟩
    go_wp2_with fail
    go_ret
    exact ⟨by simp, bel_on b0.out K2.out⟩
  · rw [hc] at HCPY
    obtain ⟨hyn, -⟩ := copyB_sym hc
    obtain rfl : n = ny := by omega
    obtain ⟨gn, rfl⟩ : ∃ q : Nat, gg = (q : Int) := ⟨gg.toNat, by omega⟩
    have hgm : gn ≤ mg := by omega
    have hd1 : 1 ≤ D := by omega
    have hm1 : 1 ≤ mg := by omega
    have HWO : Hid (∀ u : Nat, u < U → ∀ W, Below w.heap.size w W → Calls Tryz.prog 35 #[.agg l.cs.toArray, .int .i64 (gn : Int), .int .i64 (u : Int)] W fun e w' => (∃ A c, e = .returned (.tuple #[.slice A n c, .int .i64 0]) ∧ OB W.heap.size w' A c (l.word gn u)) ∧ Below W.heap.size W w') := fun u hu2 W hW => by
      refine (LevelWord_own l (gn : Int) (u : Int) W (h.below hW) (by omega) (by omega) (by omega) (by omega)).mono fun e w' hq => ?_
      obtain ⟨⟨A, c, h1, h2⟩, h3⟩ := hq
      have e1 : l.wordR (gn : Int) (u : Int) = (l.word gn u, 0) := by
        unfold LevV.wordR LevV.word
        rw [if_neg (by rw [hok]; simp), if_neg (by omega), Int.toNat_natCast, Int.toNat_natCast]
      rw [e1] at h1 h2
      dsimp only at h1 h2
      rw [l.word_len, hn] at h1
      exact ⟨⟨A, c, h1, h2⟩, h3⟩
    obtain ⟨v1, v2⟩ := one_cmp (LevV.ok_part hok 0) (d := D) hD
    have v1 : cmpFS (lowS (divsN D D 1) (bin (2 * D) D)).1 (lowS (divsN D D 1) (bin (2 * D) D)).2 l.x l.y = ((cmpN (divsN D D 1 * val l.y) (val l.x * bin (2 * D) D)), 0) := v1
    have v2 : (cmpN (divsN D D 1 * val l.y) (val l.x * bin (2 * D) D)) ≤ 0 ↔ 0 ≤ (l.part 0).th D := v2
    have HCM : Hid (∀ W A a B b, Below w.heap.size w W → NR W A a (lowS (divsN D D 1) (bin (2 * D) D)).1 → NR W B b (lowS (divsN D D 1) (bin (2 * D) D)).2 → Calls Tryz.prog 54 #[.agg #[.slice A (lowS (divsN D D 1) (bin (2 * D) D)).1.length a, .slice B (lowS (divsN D D 1) (bin (2 * D) D)).2.length b], .agg #[.slice l.A l.x.length l.ca, .slice l.Bd l.y.length l.cb]] W fun e w' => e = .returned (.tuple #[.int .i64 (cmpN (divsN D D 1 * val l.y) (val l.x * bin (2 * D) D)), .int .i64 0]) ∧ Below W.heap.size W w') := fun W A a B b hW g1 g2 => (CompareFractions_any A a _ B b _ l.A l.ca l.x l.Bd l.cb l.y W rfl rfl rfl rfl g1 g2 (h.hx.below hW) (h.hy.below hW)).mono fun e w' hq => by
      rw [v1] at hq
      exact hq
    obtain ⟨zq, hzq⟩ : ∃ z, (cmpN (divsN D D 1 * val l.y) (val l.x * bin (2 * D) D)) = z := ⟨_, rfl⟩
    rw [hzq] at HCM v2
    have hlen : ∀ xs : List Nat, 0 < xs.length → ¬ (0 < zq) → l.acc (bring (l.wrds gn xs) y l.tot l.tot) = prs (gn : Int) (l.mem (bring (l.wrds gn xs) y l.tot l.tot) (gn : Int)) := fun xs hx hz => two_acc hok hD hmg hd1 hm1 hgm (v2.1 (by omega)) hx y
    obtain ⟨pc, hpc⟩ : ∃ q, (l.part (gn + 1)).cmp = q := ⟨_, rfl⟩
    have HAC : Hid (0 < (coal C U).length → ¬ (0 < zq) → 0 < (l.acc (bring (l.wrds gn (coal C U)) y l.tot l.tot)).length ∧ ∀ j (hj : j < (l.acc (bring (l.wrds gn (coal C U)) y l.tot l.tot)).length), (l.acc (bring (l.wrds gn (coal C U)) y l.tot l.tot))[j].1 = (gn : Int) ∧ -1 ≤ (l.acc (bring (l.wrds gn (coal C U)) y l.tot l.tot))[j].2 ∧ (l.acc (bring (l.wrds gn (coal C U)) y l.tot l.tot))[j].2 ≤ 16 ∧ (pc = true → 0 ≤ (l.acc (bring (l.wrds gn (coal C U)) y l.tot l.tot))[j].2)) := fun hx hz => by
      have e := hlen _ hx hz
      generalize (bring (l.wrds gn (coal C U)) y l.tot l.tot) = zz at *
      generalize l.acc zz = es at *
      subst e
      refine ⟨by unfold prs; rw [List.length_map]; exact usS_pos _, fun j hj => ?_⟩
      have hj2 : j < (l.mem zz (gn : Int)).length := by unfold prs at hj; rwa [List.length_map] at hj
      have hm := mem_bd hok zz (gn : Int) _ (List.getElem_mem hj2)
      have e2 : (prs (gn : Int) (l.mem zz (gn : Int)))[j] = ((gn : Int), (l.mem zz (gn : Int))[j]) := by simp [prs]
      rw [e2]
      exact ⟨rfl, hm.1, hm.2, fun g => two_some hok zz gn (by rw [hpc]; exact g) _ (List.getElem_mem hj2)⟩
    have HTR : Hid (0 < (coal C U).length → ∀ (Z : Option Addr) (cz : Nat) (W : World), Below w.heap.size w W → BR W Z cz (bring (l.wrds gn (coal C U)) y l.tot l.tot) → Calls Tryz.prog 39 #[.agg l.cs.toArray, .slice Z n cz] W fun e w' => (∃ A c, e = .returned (.tuple #[.slice A (l.acc (bring (l.wrds gn (coal C U)) y l.tot l.tot)).length c, .int .i64 0]) ∧ ER w' A c (l.acc (bring (l.wrds gn (coal C U)) y l.tot l.tot))) ∧ Below W.heap.size W w') := fun hx Z cz W hW hZ => (TraceLevels_any l Z cz _ W (h.below hW) (n := n) (by rw [bring_len, hn]) hZ).mono fun e w' hq => by
      obtain ⟨⟨A, c, h1, h2⟩, h3⟩ := hq
      have e1 : l.accR (bring (l.wrds gn (coal C U)) y l.tot l.tot) = (l.acc (bring (l.wrds gn (coal C U)) y l.tot l.tot), 0) := by
        unfold LevV.accR
        rw [if_neg (by rw [hok]; simp), if_neg (by rw [two_copy l gn hx (by rw [hn]; exact hc)]; simp)]
      rw [e1] at h1 h2
      exact ⟨⟨A, c, h1, h2⟩, h3⟩
    rw [hn] at HTR HAC
    have HMO : Hid (∀ W, Below w.heap.size w W → Calls Tryz.prog 65 #[.agg l.cs.toArray, .int .i64 (gn : Int)] W fun e w' => e = .returned (.agg (l.part (gn + 1)).cs.toArray) ∧ Below W.heap.size W w') := fun W hW => MembersOf_any l gn W (h.below hW) (by omega)
    have HCO : Hid (∀ W, Below w.heap.size w W → Calls Tryz.prog 61 #[.agg (l.part (gn + 1)).cs.toArray] W fun e w' => e = .returned (.tuple #[.bool pc, .int .i64 0]) ∧ Below W.heap.size W w') := fun W hW => by
      have := complete_good (l.part (gn + 1)) W ((h.below hW).part (gn + 1)) (LevV.ok_part hok _)
      rw [hpc] at this
      exact this
    have u1 := tailS_yes (d := D) (k := D) (X := 1) (x := 0) (by omega) (by omega) (by omega) (by omega) (by omega)
    have HT : Hid (∀ W, Calls Tryz.prog 55 #[.int .i64 (D : Int), .int .i64 (D : Int), .int .i64 0] W fun e w' => ∃ X x' Z z, e = .returned (.tuple #[.agg #[.slice X (tailS (D : Int) (D : Int) 0).1.1.length x', .slice Z (tailS (D : Int) (D : Int) 0).1.2.length z], .int .i64 (tailS (D : Int) (D : Int) 0).2]) ∧ NR w' X x' (tailS (D : Int) (D : Int) 0).1.1 ∧ NR w' Z z (tailS (D : Int) (D : Int) 0).1.2 ∧ Below W.heap.size W w') := fun W => (Tail_any (D : Int) (D : Int) 0 W).mono fun e w' h => frac2_open_ h
    rw [u1] at HT
    dsimp only at HT
    have HWL : Hid (∀ u, (l.word gn u).length = n) := fun u => by unfold Hid at *; rw [l.word_len, hn]
    have HWB : Hid (∀ u i, bt (l.word gn u) i ≤ 1) := fun u i => l.word_bit gn u i
    have HYL := Lib.hid hyl
    have H_Y := Lib.hid hy
    have HCY := Lib.hid hc
    have HBIT : Hid (∀ u : Nat, ∃ q bb : Nat, (C : Int) / (2 : Int) ^ u = (q : Int) ∧ bits BinOp.and IntKind.u16 (q : Int) 1 = (bb : Int) ∧ (bb = 0 ∨ bb = 1) ∧ C.testBit u = decide (bb = 1) ∧ q < 65536) := fun u => bit_u16 hC u
    have hCi : (C : Int) ≤ 65535 := by omega
    have HCU : Hid (∀ u, (coal C u).length ≤ u) := fun u => coal_len C u
    have HN1 : Hid (1 ≤ n ∧ n ≤ 1920) := by
      have := (StV.n_le (LevV.ok_part hok 0)).1
      have : (l.part 0).n ≤ l.tot := by unfold LevV.tot; omega
      unfold Hid; omega
    have HUN : Hid (U ≤ 16) := by unfold Hid; omega
    have hgi : (gn : Int) ≤ 16 := by omega
    have tg1 : decide ((gn : Int) < 0) = false := by simp
    have tg2 : decide ((Gn : Int) ≤ (gn : Int)) = false := by simp; omega
    have tg3 : decide (Gn ≤ gn) = false := by simp; omega
    generalize (lowS (divsN D D 1) (bin (2 * D) D)) = l1 at *
    obtain ⟨l1a, l1b⟩ := l1
    dsimp only at *
    generalize l1a.length = n1a at *
    generalize l1b.length = n1b at *
    generalize (l.part (gn + 1)).cs = pcs at *
    generalize l.cs = cs at *
    generalize l.x.length = lx at *
    generalize l.y.length = ly at *
    clear hlen hzq hpc v1 v2 u1 hok hW0 h h0 hk hC hy hy0 hyl hmg hU hD hGn hn G1 G2 M1 M2 B1 B2 t1 t2 t3 t4 t5 hg1 hg2 hc hyn hgm hd1 hm1
    go_enter Tryz.func18, Tryz.ntmps18
    go_wp2_with (rw [← HW0.out])
    refine (alive_any _).mono ?_
    rintro e w1 ⟨rfl, hb1⟩
    have K1 : Hid (Below w.heap.size w w1) := bel_on K0.out hb1
    obtain ⟨c0, c1, c2, c19, c20⟩ := HCL.out _ K1.out
    clear hb1
    go_wp2_with (refine wpList_load_row rfl 60 (.tmp 4) rfl w0.heap.size rfl 60 cs.toArray (0, 0) _ (HX.out _ K1.out) Tryz.underlying60 rfl HIN.out ?_)
    refine (HVS.out _ K1.out).mono ?_
    rintro e w2 ⟨rfl, hb2⟩
    have K2 : Hid (Below w.heap.size w w2) := bel_on K1.out hb2
    clear c0 c1 c2 c19 c20
    obtain ⟨c0, c1, c2, c19, c20⟩ := HCL.out _ K2.out
    clear hb2
    go_wp2_with fail
    refine (HCPY.out _ K2.out).mono ?_
    rintro e w3 ⟨rfl, rfl⟩
    clear c0 c1 c2 c19 c20
    have K3 := K2
    go_wp2_with fail
    go_loopw [11, 12] (fun vo vu wr => ∃ (u : Nat) (A1 : Option Addr) (ca : Nat) (rs : List BRow), u ≤ U ∧ vu = .int .i64 (u : Int) ∧ vo = .slice A1 (coal C u).length ca ∧ Hid (rs.map BRow.l = l.wrds gn (coal C u)) ∧ Hid (rs.length = (coal C u).length) ∧ Hid (RO w.heap.size wr A1 ca rs) ∧ Hid (∀ r ∈ rs, OB w.heap.size wr r.A r.c r.l) ∧ Below w.heap.size w wr) (fun _ vu _ => U - (intOf vu).toNat)
    case atStart => exact ⟨0, none, 0, [], by omega, rfl, rfl, rfl, rfl, RO.nil _ _, (fun r hr => by cases hr), K3.out⟩
    case round =>
      obtain ⟨u, A1, ca, rs, hu, rfl, rfl, HL, HK, HR, HB, hbel⟩ := hrel
      obtain ⟨-, c1', -, -, -⟩ := HCL.out _ hbel
      by_cases huU : u < U
      · have hui : (u : Int) < U := by omega
        have hu0 : (0 : Int) ≤ u := by omega
        obtain ⟨q, bb, hshr, hand, hb2, htb, hq⟩ := HBIT.out u
        have hqi : (q : Int) ≤ 65535 := by omega
        have HXU := HCU.out u
        rcases hb2 with rfl | rfl
        · have htb0 : C.testBit u = false := by rw [htb]; rfl
          have HE := Lib.hid (coal_no htb0)
          have hand' : bits BinOp.and IntKind.u16 (q : Int) 1 = 0 := hand
          clear htb htb0 hand hq huU HXU
          obtain ⟨xl, hxl⟩ : ∃ q, (coal C u).length = q := ⟨_, rfl⟩
          have HXE := Lib.hid hxl
          rw [hxl]
          clear hxl
          go_wp2_with fail
          go_roundw
          case rel => exact ⟨u + 1, A1, ca, rs, by omega, by go_num, by rw [HE.out, HXE.out], by rw [HE.out]; exact HL.out, by rw [HE.out]; exact HK.out, HR.out, HB.out, hbel⟩
          case measure => simp [intOf]; omega
        · have htb1 : C.testBit u = true := by rw [htb]; rfl
          have HE := Lib.hid (coal_yes htb1)
          have HEW := Lib.hid (wrds_snoc2 l gn htb1)
          have hand' : bits BinOp.and IntKind.u16 (q : Int) 1 = 1 := hand
          have HXL : Hid (rs.length ≤ 16) := by have := HK.out; have := HUN.out; unfold Hid; omega
          have HWU := Lib.hid (HWO.out u huU)
          clear htb htb1 hand hq huU HXU
          obtain ⟨xl, hxl⟩ : ∃ q, (coal C u).length = q := ⟨_, rfl⟩
          rw [hxl] at HK HE ⊢
          have KR : Hid (Below w.heap.size w wr) := hbel
          clear hxl
          go_wp2_with (refine wpList_load_row rfl 60 (.tmp 4) rfl w0.heap.size rfl 60 cs.toArray (0, 0) _ (HX.out _ KR.out) Tryz.underlying60 rfl HIN.out ?_)
          refine (HWU.out _ hbel).mono ?_
          rintro e w3 ⟨⟨A3, c3, rfl, hv3⟩, hb3⟩
          have K3 : Hid (Below w.heap.size w w3) := bel_on hbel hb3
          have V3 : Hid (OB w.heap.size w3 A3 c3 (l.word gn u)) := OB.le_ hv3 hbel.size
          have HR3 := Lib.hid (HR.out.below hb3)
          have HB3 : Hid (∀ r ∈ rs, OB w.heap.size w3 r.A r.c r.l) := fun r hr => (HB.out r hr).below hb3
          clear c1' hv3 hb3
          have hnn : ¬ ((n : Int) ≠ (n : Int)) := by simp
          have HSRC : Hid (∀ W : World, Src (W.alloc (.cells #[.slice A3 n c3] 30)) 1 (some ⟨W.heap.size, 0, none⟩) 1 [BRow.v ⟨A3, c3, l.word gn u⟩]) := fun W => by
            show Src _ 1 _ 1 [.slice A3 (l.word gn u).length c3]
            rw [HWL.out u]
            exact Src.one _ _ _
          go_wp2_with (first | (at_builtin; refine wpList_append_row _ rfl (.tmp 84) (.tmp 86) rfl w.heap.size A1 xl ca rs HK.out rfl (HR3.out.below (alloc_bel _ _)) ⟨A3, c3, l.word gn u⟩ (some ⟨w3.heap.size, 0, none⟩) 1 rfl (HSRC.out w3) (by have := HXL.out; have := HK.out; omega) (by have := K3.out.size; simp; omega) ?_; intro A4 c4 w4 hon4 hbl4 hg4))
          have HB4 : Hid (∀ r ∈ rs ++ [⟨A3, c3, l.word gn u⟩], OB w.heap.size w4 r.A r.c r.l) := fun r hr => by
            have hro := HR3.out.below (alloc_bel w3 (.cells #[.slice A3 n c3] 30))
            unfold RO at hro
            rw [HK.out] at hro
            rcases List.mem_append.1 hr with hr | hr
            · exact own_kept ((HB3.out r hr).below (alloc_bel w3 _)) hro (by decide) hg4
            · rw [List.mem_singleton.1 hr]
              exact own_kept (V3.out.below (alloc_bel w3 _)) hro (by decide) hg4
          have HON4 := Lib.hid hon4
          have K4 : Hid (Below w.heap.size w w4) := (bel_on K3.out (alloc_bel w3 _)).trans hbl4
          clear hon4 hg4 hbl4
          go_wp2_with fail
          go_roundw
          case rel => exact ⟨u + 1, A4, c4, rs ++ [(⟨A3, c3, l.word gn u⟩ : BRow)], by omega, by go_num, by rw [HE.out], by unfold Hid; rw [HEW.out, List.map_append, HL.out]; rfl, by unfold Hid; rw [List.length_append, HK.out, HE.out]; rfl, HON4.out, HB4.out, K4.out⟩
          case measure => simp [intOf]; omega
      · obtain rfl : u = U := by omega
        have hx5 : ¬ ((u : Int) < (u : Int)) := by omega
        obtain ⟨wq, hwq⟩ : ∃ W, W = wr := ⟨_, rfl⟩
        subst hwq
        have K3 : Hid (Below w.heap.size w wq) := hbel
        have HRLN : Hid (∀ r ∈ rs, r.l.length = n ∧ ∀ i, bt r.l i ≤ 1) := fun r hr => by
          have hm : r.l ∈ rs.map BRow.l := List.mem_map.2 ⟨r, hr, rfl⟩
          rw [HL.out] at hm
          obtain ⟨x, -, hx⟩ := List.mem_map.1 hm
          rw [← hx]
          exact ⟨HWL.out x, HWB.out x⟩
        have HXU := HCU.out u
        generalize l.wrds gn (coal C u) = ws at *
        obtain ⟨xl, hxl⟩ : ∃ q, (coal C u).length = q := ⟨_, rfl⟩
        rw [hxl] at HK HTR HAC HXU ⊢
        have hxi : (xl : Int) ≤ 16 := by omega
        clear hxl huU
        by_cases hx0 : xl = 0
        · subst hx0
          go_wp2_with fail
          go_ret
          exact ⟨by simp, bel_on b0.out K3.out⟩
        have hxp : 0 < xl := by omega
        have hxpi : (0 : Int) < xl := by omega
        have tx1 : decide ((xl : Int) = 0) = false := by simp; omega
        have tx2 : ((xl : Int) == 0) = false := by simp; omega
        have tx3 : decide (xl = 0) = false := by simp; omega
        have tx4 : (xl == 0) = false := by simp; omega
        have HXP := Lib.hid hxp
        clear hx0 hxp
        have HRR : Hid (∀ W, Below wq.heap.size wq W → RR W A1 ca rs) := fun W hW => RR.below (RO.rr HR.out (by have := HK.out; omega) (fun r hr => (HB.out r hr).br (by rw [(HRLN.out r hr).1]; omega))) hW
        have HBZ : Hid (bring ws y n 0 = y) := bring_zero ws HYL.out
        go_wp2_with (at_builtin; refine wpList_append_bytes _ rfl (.tmp 92) (.tmp 93) rfl wq.heap.size (some ⟨wq.heap.size, 0, none⟩) 0 0 [] rfl rfl (OB.lit0 _ _ (Nat.le_refl _)) Y n d y HYL.out rfl ((H_Y.out.below (bel_on K3.out (alloc_bel _ _))).src HYL.out) (by omega) (by simp) ?_; intro A5 c5 w5 hon5 hbl5 hg5; clear hg5; have E5 : Hid (Below wq.heap.size wq w5) := (alloc_bel wq _).trans hbl5; have P5 : Hid (OB wq.heap.size w5 A5 c5 y) := hon5; clear hon5 hbl5; simp only [Nat.zero_add])
        clear c1' tx1 tx2 tx3 tx4
        obtain ⟨gz, rfl, gz1, gz2, -, -, -⟩ := P5.out.room (i := 0) (by rw [HYL.out]; have := HN1.out; omega)
        have HGZ : Hid (wq.heap.size ≤ gz) := gz1
        clear gz1 gz2
        obtain ⟨b, off, rfl, -⟩ : ∃ b off, A1 = some ⟨b, off, none⟩ ∧ True := by
          obtain ⟨b, off, r, e, -, -, -, -⟩ := (HRR.out _ (Below.refl _ _)).at_ (i := 0) (by rw [HK.out]; exact HXP.out)
          exact ⟨b, off, e, trivial⟩
        have HROW : Hid (∀ k i, k < xl → i < n → ∃ p o cc, ∀ W, Below wq.heap.size wq W → W.cell? ⟨b, off + k, none⟩ = some (.slice (some ⟨p, o, none⟩) n cc) ∧ W.cell? ⟨p, o + i, none⟩ = some (.int .u8 (bt (ws.getD k []) i : Int)) ∧ bt (ws.getD k []) i ≤ 1) := fun k i hk hi => by
          obtain ⟨b', off', r, e, hb, hr, hcr, hR⟩ := (HRR.out _ (Below.refl _ _)).at_ (i := k) (by rw [HK.out]; exact hk)
          injection e with e
          injection e with e1 e2
          subst e1 e2
          obtain ⟨hl1, hl2⟩ := HRLN.out r (List.mem_of_getElem? hr)
          have hlr := row_l hr
          rw [HL.out] at hlr
          obtain ⟨p, o, e', hp, hcb⟩ := hR.at_ (i := i) (by rw [hl1]; exact hi)
          rw [e', hl1] at hcr
          refine ⟨p, o, r.c, fun W hW => ⟨(hW.cell (World.block_lt_of_cell? _ _ hcr)).trans hcr, ?_, by rw [hlr]; exact hl2 i⟩⟩
          rw [hlr]
          exact (hW.cell (World.block_lt_of_cell? _ _ hcb)).trans hcb
        go_loopw [16] (fun vi wr2 => ∃ i : Nat, i ≤ n ∧ vi = .int .i64 (i : Int) ∧ Hid (OB wq.heap.size wr2 (some ⟨gz, 0, none⟩) c5 (bring ws y n i)) ∧ Below wq.heap.size wq wr2) (fun vi _ => n - (intOf vi).toNat)
        case atStart => exact ⟨0, by omega, rfl, by rw [HBZ.out]; exact P5.out, E5.out⟩
        case round =>
          obtain ⟨i, hi, rfl, HO2, hbel2⟩ := hrel
          obtain ⟨wr2, hwr2⟩ : ∃ W, W = wr := ⟨_, rfl⟩
          subst hwr2
          by_cases hin : i < n
          · have hii : (i : Int) < n := by omega
            have hi0 : (0 : Int) ≤ i := by omega
            go_wp2_with fail
            go_loopw [17, 18] (fun vs vk wr3 => ∃ k : Nat, k ≤ xl ∧ vk = .int .i64 (k : Int) ∧ vs = .bool (agreeK ws i k) ∧ Hid (OB wq.heap.size wr3 (some ⟨gz, 0, none⟩) c5 (bring ws y n i)) ∧ Below wq.heap.size wq wr3) (fun _ vk _ => xl - (intOf vk).toNat)
            case atStart => exact ⟨0, by omega, rfl, rfl, HO2.out, hbel2⟩
            case round =>
              obtain ⟨k, hk, rfl, rfl, HO3, hbel3⟩ := hrel
              obtain ⟨wr3, hwr3⟩ : ∃ W, W = wr := ⟨_, rfl⟩
              subst hwr3
              obtain ⟨p0, o0, cc0, hc0⟩ := HROW.out 0 i HXP.out hin
              obtain ⟨c00, b00, hx0⟩ := hc0 _ hbel3
              rw [Nat.add_zero] at c00
              have HDH : Hid (ws.getD 0 [] = hd ws) := rfl
              rw [HDH.out] at b00 hx0
              clear hc0
              by_cases hkn : k < xl
              · have hki : (k : Int) < xl := by omega
                have hk0 : (0 : Int) ≤ k := by omega
                obtain ⟨pk, ok, ck, hck⟩ := HROW.out k i hkn hin
                obtain ⟨ck0, bk0, hxk⟩ := hck _ hbel3
                clear hck
                obtain ⟨x, hbx⟩ : ∃ q, bt (ws.getD k []) i = q := ⟨_, rfl⟩
                obtain ⟨x0, hb0⟩ : ∃ q, bt (hd ws) i = q := ⟨_, rfl⟩
                rw [hbx] at bk0 hxk
                rw [hb0] at b00 hx0
                have HBX := Lib.hid hbx
                have HB0X := Lib.hid hb0
                have hx1 : (x : Int) ≤ 1 := by omega
                have hx2 : (x0 : Int) ≤ 1 := by omega
                obtain ⟨ag, hag⟩ : ∃ q, agreeK ws i k = q := ⟨_, rfl⟩
                rw [hag]
                have HAG := Lib.hid hag
                clear hag hbx hb0 hxk hx0
                cases ag
                · have HS1 : Hid (agreeK ws i (k + 1) = false) := by unfold Hid; rw [agreeK, HAG.out]; rfl
                  go_wp2_with fail
                  go_quiet (fail)
                  go_wp2_with fail
                  go_roundw
                  case rel => exact ⟨k + 1, by omega, by go_num, by rw [HS1.out], HO3.out.drN _, below_drewN hbel3 _⟩
                  case measure => simp [intOf]; omega
                · by_cases hxx : x = x0
                  · have HS1 : Hid (agreeK ws i (k + 1) = true) := by unfold Hid; rw [agreeK, HAG.out, HBX.out, HB0X.out, hxx]; simp
                    subst hxx
                    clear hx1 hx2 hin hkn
                    go_wp2_with fail
                    go_quiet (fail)
                    go_wp2_with fail
                    go_roundw
                    case rel => exact ⟨k + 1, by omega, by go_num, by rw [HS1.out], HO3.out.drN _, below_drewN hbel3 _⟩
                    case measure => simp [intOf]; omega
                  · have HS1 : Hid (agreeK ws i (k + 1) = false) := by unfold Hid; rw [agreeK, HAG.out, HBX.out, HB0X.out]; simp [hxx]
                    have te1 : decide ((x : Int) = (x0 : Int)) = false := by simp; omega
                    have te2 : ((x : Int) == (x0 : Int)) = false := by simp; omega
                    have te3 : decide (x = x0) = false := by simp; omega
                    have te4 : (x == x0) = false := by simp; omega
                    clear hx1 hx2 hin hkn hxx
                    go_wp2_with fail
                    go_quiet (fail)
                    go_wp2_with fail
                    go_roundw
                    case rel => exact ⟨k + 1, by omega, by go_num, by rw [HS1.out], HO3.out.drN _, below_drewN hbel3 _⟩
                    case measure => simp [intOf]; omega
              · obtain rfl : k = xl := by omega
                have hx6 : ¬ ((k : Int) < (k : Int)) := by omega
                have HWN : Hid (ws.length = k) := by unfold Hid; rw [← HL.out, List.length_map]; exact HK.out
                clear hkn hk
                cases hag : agreeK ws i k
                · have HKP : Hid (bring ws y n i = bring ws y n (i + 1)) := bring_keep y n i (by rw [HWN.out]; exact hag)
                  clear hag hin
                  go_wp2_with fail
                  go_roundw
                  case rel => exact ⟨i + 1, by omega, by go_num, by rw [← HKP.out]; exact HO3.out, hbel3⟩
                  case measure => simp [intOf]; omega
                · have HKP : Hid ((bring ws y n i).set i ((hd ws).getD i 0) = bring ws y n (i + 1)) := bring_set y n i hin (by rw [HWN.out]; exact hag)
                  obtain ⟨gz', e1, -, -, kz, kf, hz3⟩ := HO3.out.room (i := i) (by rw [bring_len]; exact hin)
                  injection e1 with e1
                  injection e1 with e1 _
                  subst e1
                  have hz4 := hz3 ((hd ws).getD i 0)
                  rw [HKP.out] at hz4
                  have HZ4 : Hid (OB wq.heap.size (wr3.setCell ⟨gz, i, none⟩ (.int .u8 (bt (hd ws) i : Int))) (some ⟨gz, 0, none⟩) c5 (bring ws y n (i + 1))) := hz4
                  have DZ4 : Hid (Below wq.heap.size wq (wr3.setCell ⟨gz, i, none⟩ (.int .u8 (bt (hd ws) i : Int)))) := hbel3.setCell (p := ⟨gz, i, none⟩) HGZ.out _
                  obtain ⟨x0, hb0⟩ : ∃ q, bt (hd ws) i = q := ⟨_, rfl⟩
                  rw [hb0] at b00 hx0 HZ4 DZ4
                  have hx2 : (x0 : Int) ≤ 1 := by omega
                  clear hag hin hz3 hz4 hb0 hx0
                  go_wp2_with fail
                  go_roundw
                  case rel => exact ⟨i + 1, by omega, by go_num, HZ4.out, DZ4.out⟩
                  case measure => simp [intOf]; omega
          · obtain rfl : i = n := by omega
            have hx5 : ¬ ((i : Int) < (i : Int)) := by omega
            have K6 : Hid (Below w.heap.size w wr2) := bel_on K3.out hbel2
            have Z6 : Hid (BR wr2 (some ⟨gz, 0, none⟩) c5 (bring ws y i i)) := HO2.out.br (by rw [bring_len]; have := HN1.out; omega)
            have HTR2 := Lib.hid (HTR.out HXP.out (some ⟨gz, 0, none⟩) c5)
            have HAC2 := Lib.hid (HAC.out HXP.out)
            generalize bring ws y i i = zz at *
            generalize l.acc zz = es at *
            obtain ⟨nl, hnl⟩ : ∃ q, es.length = q := ⟨_, rfl⟩
            rw [hnl] at HTR2
            have HNL := Lib.hid hnl
            clear hnl hin
            obtain ⟨c0, c1, c2, c19, c20⟩ := HCL.out _ K6.out
            go_wp2_with fail
            clear c0 c1 c2 c19 c20
            refine (HT.out _).mono ?_
            rintro e w7 ⟨X7, x7, Z7, z7, rfl, gx7, gz7, hb7⟩
            obtain ⟨w7b, hw7⟩ : ∃ W, W = w7.alloc (.cells #[.slice X7 n1a x7, .slice Z7 n1b z7] 27) := ⟨_, rfl⟩
            have d7 : Below w7.heap.size w7 w7b := by rw [hw7]; exact alloc_bel _ _
            have hbb7 := bel_on hb7 d7
            have K7 : Hid (Below w.heap.size w w7b) := bel_on K6.out hbb7
            have T7 : Hid (Blk w7b w7.heap.size 27 #[.slice X7 n1a x7, .slice Z7 n1b z7]) := by unfold Hid; rw [hw7]; exact Blk.new _ _ _
            have GX7 := Lib.hid (gx7.below d7)
            have GZ7 := Lib.hid (gz7.below d7)
            have Z7 := Lib.hid (Z6.out.below hbb7)
            have HW7 := Lib.hid hw7
            clear hw7 d7 hbb7 hb7 gx7 gz7
            have q0 := T7.out.cell 0
            have q1 := T7.out.cell 1
            obtain ⟨c0, c1, c2, c19, c20⟩ := HCL.out _ K7.out
            go_wp2_with (rw [← HW7.out])
            refine (HCM.out _ _ _ _ _ K7.out GX7.out GZ7.out).mono ?_
            rintro e w8 ⟨rfl, hb8⟩
            have K8 : Hid (Below w.heap.size w w8) := bel_on K7.out hb8
            have Z8 := Lib.hid (Z7.out.below hb8)
            clear hb8 q0 q1 c0 c1 c2 c19 c20
            go_wp2_with (refine wpList_load_row rfl 60 (.tmp 4) rfl w0.heap.size rfl 60 cs.toArray (0, 0) _ (HX.out _ K8.out) Tryz.underlying60 rfl HIN.out ?_)
            refine (HTR2.out _ K8.out Z8.out).mono ?_
            rintro e w9 ⟨⟨A9, c9, rfl, he9⟩, hb9⟩
            have K9 : Hid (Below w.heap.size w w9) := bel_on K8.out hb9
            have E9 := Lib.hid he9
            clear hb9 he9
            go_wp2_with (refine wpList_load_row rfl 60 (.tmp 4) rfl w0.heap.size rfl 60 cs.toArray (0, 0) _ (HX.out _ K9.out) Tryz.underlying60 rfl HIN.out ?_)
            refine (HMO.out _ K9.out).mono ?_
            rintro e w10 ⟨rfl, hb10⟩
            have K10 : Hid (Below w.heap.size w w10) := bel_on K9.out hb10
            have E10 := Lib.hid (E9.out.below hb10)
            clear hb10
            go_wp2_with fail
            refine (HCO.out _ K10.out).mono ?_
            rintro e w11 ⟨rfl, hb11⟩
            have K11 : Hid (Below w.heap.size w w11) := bel_on K10.out hb11
            have E11 := Lib.hid (E10.out.below hb11)
            have hnli : (nl : Int) ≤ 140737488351232 := by have := E10.out.len; have := HNL.out; omega
            clear hb11
            by_cases hq : 0 < zq
            · go_wp2_with fail
              go_ret
              exact ⟨by simp, bel_on b0.out K11.out⟩
            · obtain ⟨hn0, hen⟩ := HAC2.out (by omega)
              rw [HNL.out] at hn0
              have hn0i : (0 : Int) < nl := by omega
              have HEN := Lib.hid hen
              clear hn0 hen
              go_wp2_with fail
              go_loopw [27] (fun vj wr4 => ∃ j : Nat, j ≤ nl ∧ vj = .int .i64 (j : Int) ∧ Below w11.heap.size w11 wr4) (fun vj _ => nl - (intOf vj).toNat)
              case atStart => exact ⟨0, by omega, rfl, Below.refl _ _⟩
              case round =>
                obtain ⟨j, hj, rfl, hbel4⟩ := hrel
                obtain ⟨wr4, hwr4⟩ : ∃ W, W = wr := ⟨_, rfl⟩
                subst hwr4
                by_cases hjn : j < nl
                · have hji : (j : Int) < nl := by omega
                  have hj0 : (0 : Int) ≤ j := by omega
                  have hje : j < es.length := by rw [HNL.out]; exact hjn
                  obtain ⟨pl, ol, rfl, -, cg, cm⟩ := (E11.out.below hbel4).at_ (i := j) hje
                  obtain ⟨v1, v2, v3, v4⟩ := HEN.out j hje
                  rw [v1] at cg
                  obtain ⟨v, hv⟩ : ∃ v, es[j].2 = v := ⟨_, rfl⟩
                  rw [hv] at cm v2 v3 v4
                  clear hv v1 hje hjn
                  cases pc
                  · clear v4
                    go_wp2_with fail
                    go_roundw
                    case rel => exact ⟨j + 1, by omega, by go_num, hbel4⟩
                    case measure => simp [intOf]; omega
                  · have hv0 : ¬ (v < 0) := by have := v4 rfl; omega
                    clear v4
                    go_wp2_with fail
                    go_roundw
                    case rel => exact ⟨j + 1, by omega, by go_num, hbel4⟩
                    case measure => simp [intOf]; omega
                · obtain rfl : j = nl := by omega
                  have hx7 : ¬ ((j : Int) < (j : Int)) := by omega
                  go_wp2_with fail
                  go_ret
                  exact ⟨by simp; omega, bel_on b0.out (bel_on K11.out hbel4)⟩
theorem codeTwo_walk (l : LevV) (gg : Int) (C : Nat) (Y : Option Addr) (d : Nat) (y : List UInt8) (w : World) (h : LevOK w l) (h1 : -9223372036854775808 ≤ gg) (h2 : gg ≤ 9223372036854775807) (hc : C < 65536) (hy : BR w Y d y) :
    Calls Tryz.prog 18 #[.agg l.cs.toArray, .int .i64 gg, .int .u16 (C : Int), .slice Y y.length d] w fun e w' => e = .returned (.bool true) ∧ Below w.heap.size w w' := codeTwo_walk0 l gg C Y d y w h h1 h2 hc hy
end Go.Proofs.YtenpkmgbaajeeaaGreat
