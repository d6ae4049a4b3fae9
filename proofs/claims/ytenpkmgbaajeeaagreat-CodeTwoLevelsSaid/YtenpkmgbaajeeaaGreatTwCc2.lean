/-
  Lemmas and contracts, joined.
-/
import Derived.Test.YtenpkmgbaajeeaaGreatTwCc1
import Derived.Test.YtenpkmgbaajeeaaGreatTwCt2
import Derived.Test.YtenpkmgbaajeeaaGreatTwCp2
set_option linter.unusedSimpArgs false
set_option linter.unusedVariables false
set_option linter.unnecessarySimpa false
/- The spread of a copy: the counts of all scores, and their sum. -/
namespace Go.Proofs.YtenpkmgbaajeeaaGreat
open Go.RowKit Go.Maps
set_option linter.unusedVariables false
set_option linter.unusedSimpArgs false

theorem grown_setCell (w : World) (a : Addr) (u : Value) : w.grownBy (w.setCell a u) (some a.block) :=
  ⟨rfl, rfl, rfl, by simp, fun k hk hne => Below.heap_setCell w a u k (by simpa using hne)⟩
theorem below_of_grown {w w' : World} (h : w.grownBy w' none) : Below w.heap.size w w' := (Below.refl _ _).grown h (Nat.le_refl _) (fun k hk => by cases hk)
/-- What a spread's map holds. -/
def SV (b : Int) (l : List Int) (y : List UInt8) (i : Nat) (w : World) (f : Int → Option Value) : Prop := ∀ s, (Lit.int .i64 s).wf = true → NV w (f s) (scnt b l y i s) ∧ (f s ≠ none → -(32 * (i : Int)) ≤ s ∧ s ≤ 32 * (i : Int))
/-- A block of a map and a slice is no number's. -/
theorem Blk.no_int {w : World} {g : Nat} {t : TypeId} {x : Option Nat} {a : Option Addr} {n c : Nat} (h : Blk w g t #[.map x, .slice a n c]) {o : Nat} {k : IntKind} {z : Int} (hc : w.cell? ⟨g, o, none⟩ = some (.int k z)) : False := by
  rw [h.cell] at hc
  match o, hc with
  | 0, hc => simp at hc
  | 1, hc => simp at hc
  | o + 2, hc => simp at hc
theorem NR.keep2 {w : World} {g : Nat} {t : TypeId} {x : Option Nat} {a A : Option Addr} {n c cc : Nat} {l : List Nat} (hn : NR w A cc l) (h : Blk w g t #[.map x, .slice a n c]) (o : Nat) (u : Value) : NR (w.setCell ⟨g, o, none⟩ u) A cc l :=
  hn.grown_ (fun hl b' off hA e => by
    obtain ⟨bb, oo, hA2, _, hc⟩ := hn.2.2.2 hl
    have hbb : g = bb := by
      rw [hA] at hA2
      injection hA2 with hA2
      injection hA2 with h1 _
      rw [← h1]
      exact Option.some.inj e
    subst hbb
    have := hc 0 (List.length_pos_iff.2 hl)
    exact h.no_int this) (grown_setCell w ⟨g, o, none⟩ u)
theorem NV.keep2 {w : World} {g : Nat} {t : TypeId} {x : Option Nat} {a : Option Addr} {n c k : Nat} {v : Option Value} (hn : NV w v k) (h : Blk w g t #[.map x, .slice a n c]) (o : Nat) (u : Value) : NV (w.setCell ⟨g, o, none⟩ u) v k := hn.imp id fun ⟨A, c', e, h'⟩ => ⟨A, c', e, h'.keep2 h o u⟩
theorem NM.keep2 {w : World} {g : Nat} {t : TypeId} {x : Option Nat} {a : Option Addr} {n c k b : Nat} {f : Int → Nat} {lo hi : Int} (hn : NM w b k f lo hi) (h : Blk w g t #[.map x, .slice a n c]) (o : Nat) (u : Value) : NM (w.setCell ⟨g, o, none⟩ u) b k f lo hi := by
  obtain ⟨F, hm, hv⟩ := hn
  exact ⟨F, hm.kept (grown_setCell w ⟨g, o, none⟩ u) (by simpa using (h.ne_map hm).symm), fun s hs => ⟨(hv s hs).1.keep2 h o u, (hv s hs).2⟩⟩
theorem SV.start {b : Int} {l : List Int} {y : List UInt8} {w w2 : World} {O : Option Addr} {o bm : Nat} (hm : MF Tryz.prog 3 w bm 0 (fun _ => none)) (hm2 : MF Tryz.prog 3 w2 bm 1 (putF (fun _ => none) 0 (.slice O (digs (sall b l 0)).length o))) (hg : w.grownBy w2 (some bm)) (hn : NR w O o (digs (sall b l 0))) : NM w2 bm 5000 (scnt b l y 0) 0 0 := by
  refine NM.fit (n := 1) ⟨_, hm2, fun s hs => ?_⟩ (by omega) (by omega)
  unfold putF
  by_cases e : s = 0
  · subst e
    rw [if_pos rfl]
    exact ⟨.inr ⟨O, o, rfl, hn.grownM hm hg⟩, fun _ => by omega⟩
  · rw [if_neg e]
    exact ⟨.inl ⟨rfl, by show (if s = 0 then 1 else 0) = 0; rw [if_neg e]⟩, fun h => absurd rfl h⟩

set_option maxHeartbeats 16000000 in
set_option maxRecDepth 1000000 in
theorem spreadOf_any (u b : Int) (A : Option Addr) (c : Nat) (l : List Int) (k : List UInt8) (Y : Option Addr) (d : Nat) (y : List UInt8) (w : World) {n : Nat} (hn : l.length = n) (hm : y.length = n) (h : IR w A c l) (hy : BR w Y d y) (hk : k.length = 16)
    (hok : scoresB u b l = true) (hyc : ∀ i, i < n → bt y i ≤ 2) :
    Calls Tryz.prog 126 #[.agg (scC u b A n c k).toArray, .slice Y n d] w fun e w' => (∃ bm M m, e = .returned (.agg #[.map (some bm), .slice M (digs (sall b l n)).length m]) ∧ NM w' bm 5000 (scnt b l y n) (-2048) 2048 ∧ NR w' M m (digs (sall b l n))) ∧ Below w.heap.size w w' := by
  have mixed : Tryz.prog.follows Departure.mixedOrders = true := by kernel_rfl
  obtain ⟨⟨o1, o2, o3, o4, o5, o6⟩, o7⟩ := scoresB_parts hok
  have hnn : (n : Int) ≤ 64 := by omega
  have HN := Lib.hid hn
  have HM := Lib.hid hm
  have H := Lib.hid h
  have HY := Lib.hid hy
  have HK := Lib.hid hk
  have HO := Lib.hid o7
  have HC := Lib.hid hyc
  have HIN : Hid (∀ A, (Tryz.prog.info? 46).map (·.size) = some (scC u b A n c k).toArray.size) := fun A => scC_info u b A n c k hk
  have HSA : Hid (∀ i, i ≤ n → sall b l i ≤ 32 ^ 64) := fun i hi => sall_le ⟨o3, o4⟩ o7 (by omega) (by omega)
  have HCI : Hid (∀ i s, i ≤ n → scnt b l y i s ≠ 0 → -(32 * (i : Int)) ≤ s ∧ s ≤ 32 * (i : Int)) := fun i s hi hs => scnt_in ⟨o3, o4⟩ o7 (by omega) hs
  have HSS : Hid (∀ i, i < n → sall b l i * b.toNat = sall b l (i + 1)) := fun i hi => sall_succ ⟨o3, o4⟩ o7 (by omega)
  have HO1 : Hid (∀ W, Calls Tryz.prog 157 #[] W fun e w' => (∃ O o, e = .returned (.slice O (digs (sall b l 0)).length o) ∧ NF W.heap.size w' O o (digs (sall b l 0))) ∧ Below W.heap.size W w') := fun W => one_any W
  have HMU : Hid (∀ (A : Option Addr) n c W, Calls Tryz.prog 107 #[.slice A n c, .int .i64 0] W fun e w' => e = .returned (.slice A n c) ∧ Below W.heap.size W w') := fun A n c W => must_any A n c 0 W
  obtain ⟨lb, hlb⟩ : ∃ lb, (digs b.toNat).length = lb := ⟨_, rfl⟩
  have HOF : Hid (∀ W, Calls Tryz.prog 159 #[.int .u64 b] W fun e w' => (∃ O o, e = .returned (.slice O lb o) ∧ NR w' O o (digs b.toNat)) ∧ Below W.heap.size W w') := fun W => by
    have := ofD_any b.toNat W (by omega)
    rwa [show ((b.toNat : Nat) : Int) = b from by omega, hlb] at this
  have ewb : IntKind.u64.wrap b = b := by rw [IntKind.wrap_u64]; omega
  have HLB := Lib.hid hlb
  have hmm := @run_makeMap Tryz.prog
  obtain ⟨W0, hW0⟩ : ∃ W : World, W = (w.alloc (.cells (scC u b A n c k).toArray 46)).alloc (.cells #[.map none, .slice none 0 0] 122) := ⟨_, rfl⟩
  have b0 : Hid (Below w.heap.size w W0) := by unfold Hid; rw [hW0]; exact alloc2_bel _ _ _
  have x0 : Hid (Blk W0 w.heap.size 46 (scC u b A n c k).toArray) := by unfold Hid; rw [hW0]; exact blk_b0 w _ _ _
  have y0 : Hid (Blk W0 (w.heap.size + 1) 122 #[.map none, .slice none 0 0]) := by unfold Hid; rw [hW0]; exact blk_b1 w _ _ _
  have HW0 := Lib.hid hW0
  clear hn hm h hy hk hok hyc o5 o6 o7 hW0 hlb
  go_enter Tryz.func126, Tryz.ntmps126
  go_wp2_with (rw [← HW0.out])
  refine (HO1.out _).mono ?_
  rintro e w1 ⟨⟨O, o, rfl, ho⟩, hb1⟩
  have M1 : Hid (MF Tryz.prog 3 w1 W0.heap.size 0 (fun _ => none)) := (MF.made W0 _ _).below hb1
  have E1 : Hid (Below W0.heap.size W0 w1) := (alloc_bel W0 (.map #[] 0)).trans (hb1.mono (by simp))
  have HOA := Lib.hid ho
  clear hb1 ho
  go_wp2_with (first
    | (refine wpList_insert_mf _ rfl (.tmp 13) _ _ 120 rfl 3 25 intKey Tryz.underlying3 Tryz.underlying120 W0.heap.size 0 (fun _ => none) rfl M1.out (by unfold maxLen; omega) 0 (.slice O (digs (sall b l 0)).length o) rfl rfl (by decide) ?_; intro w2 hm2 hg2; have M2 : Hid (NM w2 W0.heap.size 5000 (scnt b l y 0) 0 0) := SV.start M1.out hm2 hg2 HOA.out.1; have E2 : Hid (Below W0.heap.size W0 w2) := E1.out.grown hg2 E1.out.size (fun j hj => by cases hj; exact Nat.le_refl _); clear hm2 hg2))
  refine (HO1.out _).mono ?_
  rintro e w3 ⟨⟨O2, o2', rfl, ho2⟩, hb3⟩
  have M3 : Hid (NM w3 W0.heap.size 5000 (scnt b l y 0) 0 0) := M2.out.below hb3
  have E3 : Hid (Below W0.heap.size W0 w3) := bel_on E2.out hb3
  have N3 : Hid (NR w3 O2 o2' (digs (sall b l 0))) := ho2.1
  have HP5 : Hid (w.heap.size + 1 < w3.heap.size) := by
    have h1 := y0.out.lt
    have h2 := E3.out.size
    unfold Hid; omega
  clear hb3 ho2
  obtain ⟨w4, hw4⟩ : ∃ W : World, W = w3.alloc (.cells #[.map (some W0.heap.size), .slice O2 (digs (sall b l 0)).length o2'] 122) := ⟨_, rfl⟩
  have x4 : Hid (Blk w4 w3.heap.size 122 #[.map (some W0.heap.size), .slice O2 (digs (sall b l 0)).length o2']) := by unfold Hid; rw [hw4]; exact Blk.new _ _ _
  have d4 : Hid (Below w3.heap.size w3 w4) := by unfold Hid; rw [hw4]; exact alloc_bel _ _
  have HW4 := Lib.hid hw4
  have HX3 : Hid (∀ W, Below w3.heap.size w3 W → Blk W w.heap.size 46 (scC u b A n c k).toArray) := fun W hW => (x0.out.below' (E3.out.trans (hW.mono E3.out.size)))
  have HBW : Hid (∀ W, Below w3.heap.size w3 W → Below w.heap.size w W) := fun W hW => bel_on (bel_on b0.out E3.out) hW
  have HC2 : Hid (∀ W, Below w3.heap.size w3 W → W.cell? ⟨w.heap.size, 1, none⟩ = some (.int .i64 b) ∧ W.cell? ⟨w.heap.size, 2, none⟩ = some (.slice A n c)) := fun W hW => ⟨(HX3.out W hW).cell 1, (HX3.out W hW).cell 2⟩
  have HY3 : Hid (∀ W, Below w3.heap.size w3 W → Blk W (w.heap.size + 1) 122 #[.map none, .slice none 0 0]) := fun W hW => (y0.out.below' (E3.out.trans (hW.mono E3.out.size)))
  have cc := (HC2.out _ d4.out).2
  clear hw4
  go_wp2_with (rw [← HW4.out])
  clear cc
  go_loopw [21] (fun vi wr => ∃ (i bm m : Nat) (M : Option Addr), i ≤ n ∧ vi = .int .i64 (i : Int) ∧ Hid (Blk wr w3.heap.size 122 #[.map (some bm), .slice M (digs (sall b l i)).length m]) ∧ Hid (NM wr bm 5000 (scnt b l y i) (-(32 * (i : Int))) (32 * (i : Int))) ∧ Hid (NR wr M m (digs (sall b l i))) ∧ Below w3.heap.size w3 wr) (fun vi _ => n - (intOf vi).toNat)
  case atStart => exact ⟨0, _, _, _, by omega, rfl, x4.out, (M3.out.below d4.out).wider (by omega) (by omega), N3.out.below d4.out, d4.out⟩
  case round =>
    obtain ⟨i, bm, m, M, hi, rfl, HBS, HNM, HNR, hbel⟩ := hrel
    by_cases hin : i < n
    · have hii : (i : Int) < n := by omega
      have hlt := HO.out i (by have := HN.out; omega)
      obtain ⟨gb, go, rfl, hgb, hgc⟩ := (H.out.below (HBW.out _ hbel)).at_ (i := i) (by have := HN.out; omega)
      have hp0 := gA_bd (y := y) ⟨o3, o4⟩ hlt
      have hp1 := gB_bd (y := y) ⟨o3, o4⟩ hlt
      have HG : Hid (∀ W, Below wr.heap.size wr W → Calls Tryz.prog 134 #[.agg (scC u b (some ⟨gb, go, none⟩) n c k).toArray, .slice Y n d, .int .i64 (i : Int)] W fun e w' => e = .returned (.agg #[.int .i64 (gA b l y i), .int .i64 (gB b l y i)]) ∧ Below W.heap.size W w') := fun W hW =>
        gains_any u b (some ⟨gb, go, none⟩) c l k Y d y i W HN.out HM.out ((H.out.below (HBW.out _ hbel)).below hW) ((HY.out.below (HBW.out _ hbel)).below hW) hin hin ⟨o3, o4⟩ hlt (HC.out i hin)
      obtain ⟨a1, ha1⟩ : ∃ a1 : Nat, it l i = (a1 : Int) := ⟨(it l i).toNat, by omega⟩
      obtain ⟨a0, ha0⟩ : ∃ a0 : Nat, b - it l i = (a0 : Int) := ⟨(b - it l i).toNat, by omega⟩
      have ECA : Hid (cA b l i = a0) := by unfold Hid cA; rw [ha0]; simp
      have ECB : Hid (cB l i = a1) := by unfold Hid cB; rw [ha1]; simp
      rw [ha1] at hgc ha0 hlt
      have e49 : IntKind.i64.wrap (b - (a1 : Int)) = (a0 : Int) := by rw [IntKind.wrap_i64]; omega
      have ha32 : (a0 : Int) ≤ 32 ∧ (a1 : Int) ≤ 32 := by omega
      obtain ⟨hl1, hl2⟩ := hlt
      obtain ⟨h321, h322⟩ := ha32
      obtain ⟨p0, hq0⟩ : ∃ p, gA b l y i = p := ⟨_, rfl⟩
      obtain ⟨p1, hq1⟩ : ∃ p, gB b l y i = p := ⟨_, rfl⟩
      have EP0 := Lib.hid hq0
      have EP1 := Lib.hid hq1
      rw [hq0] at HG hp0
      rw [hq1] at HG hp1
      obtain ⟨hp00, hp01⟩ := hp0
      obtain ⟨hp10, hp11⟩ := hp1
      have HX1 := Lib.hid (HX3.out _ hbel)
      obtain ⟨f, hmf, hv⟩ := HNM.out
      have HMF := Lib.hid hmf
      have HV := Lib.hid hv
      obtain ⟨li, hli⟩ : ∃ li, (digs (sall b l i)).length = li := ⟨_, rfl⟩
      rw [hli] at HBS
      have HLI := Lib.hid hli
      have HIX : Hid (i ≤ n) := hi
      have HIN1 := Lib.hid hin
      have hi64 : (i : Int) ≤ 63 := by omega
      clear hq0 hq1 ha1 hmf hv hli
      go_wp2_with (first
        | (refine wpList_load_row rfl 46 (.tmp 2) rfl w.heap.size rfl 46 (scC u b (some ⟨gb, go, none⟩) n c k).toArray (0, 0) _ HX1.out Tryz.underlying46 rfl (HIN.out _) ?_)
        | (go_at_call 134; (with_reducible refine (HG.out _ (Below.refl _ _)).mono ?_); rintro e w5 ⟨rfl, hb5⟩; obtain ⟨wm, hwm⟩ : ∃ W, W = ((w5.alloc (.cells #[.int .i64 p0, .int .i64 p1] 176)).alloc (.map #[] 0)).alloc (.cells #[.map (some (w5.heap.size + 1))] 120) := ⟨_, rfl⟩; have HWM := Lib.hid hwm; have dm : Below w5.heap.size w5 wm := (by rw [hwm]; exact alloc3_bel _ _ _ _); have DW : Hid (Below wr.heap.size wr wm) := bel_on hb5 dm; have DM : Hid (Below w3.heap.size w3 wm) := bel_on hbel DW.out; have B8 : Hid (Blk wm w5.heap.size 176 #[.int .i64 p0, .int .i64 p1]) := (by unfold Hid; rw [hwm]; exact blk_a0 _ _ _ _ _); have M8 : Hid (MF Tryz.prog 3 wm (w5.heap.size + 1) 0 (fun _ => none)) := (by unfold Hid; rw [hwm]; have := (MF.made (w5.alloc (.cells #[.int .i64 p0, .int .i64 p1] 176)) Tryz.prog 3).below (alloc_bel _ (.cells #[.map (some (w5.heap.size + 1))] 120)); simpa using this); have B9 : Hid (Blk wm (w5.heap.size + 2) 120 #[.map (some (w5.heap.size + 1))]) := (by unfold Hid; rw [hwm]; exact blk_a2 _ _ _ _ _); have B5 := Lib.hid (HBS.out.below' DW.out); have c50 := B5.out.cell 0; have S5 : Hid (w3.heap.size ≤ w5.heap.size ∧ w5.heap.size + 3 ≤ wm.heap.size ∧ bm < w5.heap.size) := (by unfold Hid; exact ⟨Nat.le_trans hbel.size hb5.size, by rw [hwm]; simp, Nat.lt_of_lt_of_le HNM.out.lt hb5.size⟩); clear dm hb5 hwm)
        | (rw [← HWM.out])
        | (at_range; refine wpList_range_mf _ rfl _ 120 rfl 3 25 intKey Tryz.underlying120 bm 5000 f rfl (HMF.out.below DW.out) ?_; intro w6 cnt6 hr6 hg6 hs6))
      have R6 := Lib.hid hr6
      have D6 : Hid (Below w3.heap.size w3 w6) := DM.out.grown hg6 DM.out.size (fun j hj => by cases hj)
      have V6 : Hid (SV b l y i w6 f) := fun s hs => ⟨((HV.out s hs).1.below DW.out).below (below_of_grown hg6), (HV.out s hs).2⟩
      have N6 : Hid (NM w6 (w5.heap.size + 1) 5000 (partW (gA b l y) (gB b l y) (cA b l) (cB l) i (fun s => (f s).isSome)) (-(32 * ((i + 1 : Nat) : Int))) (32 * ((i + 1 : Nat) : Int))) := by
        refine ((NM.empty (M8.out.below (below_of_grown hg6))).fit (by omega) (by omega)).congr fun t ht => ?_
        refine (partW_zero (gA b l y) (gB b l y) (cA b l) (cB l) fun s hs => ?_).symm
        have hb := HCI.out i s HIX.out hs
        have hwf : (Lit.int .i64 s).wf = true := WalkArith.wf_i64 (by omega)
        rcases (HV.out s hwf).1 with ⟨h1, h2⟩ | ⟨A, c, h1, h2⟩
        · exact absurd h2 hs
        · rw [h1]; rfl
      have P6 := Lib.hid (B8.out.below' (below_of_grown hg6))
      have Q6 := Lib.hid (B9.out.below' (below_of_grown hg6))
      have B6 := Lib.hid (B5.out.below' (below_of_grown hg6))
      have L6 : Hid (NR w6 M m (digs (sall b l i))) := (HNR.out.below DW.out).below (below_of_grown hg6)
      clear hr6 hg6 hs6 c50
      try go_frame
      go_loopw [11] (fun _ wr => ∃ (left : Int → Bool) (cnt : Nat), Hid (MFR Tryz.prog 3 wr bm wm.heap.size 5000 f left cnt) ∧ Hid (SV b l y i wr f) ∧ Hid (NM wr (w5.heap.size + 1) 5000 (partW (gA b l y) (gB b l y) (cA b l) (cB l) i left) (-(32 * ((i + 1 : Nat) : Int))) (32 * ((i + 1 : Nat) : Int))) ∧ Hid (Blk wr w5.heap.size 176 #[.int .i64 p0, .int .i64 p1]) ∧ Hid (Blk wr (w5.heap.size + 2) 120 #[.map (some (w5.heap.size + 1))]) ∧ Hid (Blk wr w3.heap.size 122 #[.map (some bm), .slice M li m]) ∧ Hid (NR wr M m (digs (sall b l i))) ∧ Below w3.heap.size w3 wr) (fun _ w' => w'.rangeLeft bm wm.heap.size)
      case atStart => exact ⟨_, cnt6, R6.out, V6.out, N6.out, P6.out, Q6.out, B6.out, L6.out, D6.out⟩
      case round =>
        clear D6 R6 V6 N6 P6 Q6 B6 L6
        obtain ⟨left, cnt, HR, HSV, HNX, HP8, HP9, HB5, HL, hbelI⟩ := hrel
        go_wp2_with (first
          | (at_next; refine wpList_next_mf _ rfl _ rfl 3 intKey Tryz.underlying3 bm wm.heap.size 5000 _ _ _ rfl HR.out ?_ ?_))
        · intro hl0
          have NX : Hid (NM wr (w5.heap.size + 1) 5000 (scnt b l y (i + 1)) (-(32 * ((i + 1 : Nat) : Int))) (32 * ((i + 1 : Nat) : Int))) := HNX.out.congr fun t ht => partW_fin (gA b l y) (gB b l y) (cA b l) (cB l) fun s hs => by
            have hb := HCI.out i s HIX.out hs
            exact hl0 s (WalkArith.wf_i64 (by omega))
          have c90 := HP9.out.cell 0
          have c50 := HB5.out.cell 0
          have f50 := HB5.out.frozen 0
          obtain ⟨wA, hwA⟩ : ∃ W, W = wr.setCell ⟨w3.heap.size, 0, none⟩ (.map (some (w5.heap.size + 1))) := ⟨_, rfl⟩
          have BA : Hid (Blk wA w3.heap.size 122 #[.map (some (w5.heap.size + 1)), .slice M li m]) := by unfold Hid; rw [hwA]; exact HB5.out.set_ 0 _
          have NA : Hid (NM wA (w5.heap.size + 1) 5000 (scnt b l y (i + 1)) (-(32 * ((i + 1 : Nat) : Int))) (32 * ((i + 1 : Nat) : Int))) := by unfold Hid; rw [hwA]; exact NX.out.keep2 HB5.out 0 _
          have LA : Hid (NR wA M m (digs (sall b l i))) := by unfold Hid; rw [hwA]; exact HL.out.keep2 HB5.out 0 _
          have DA : Hid (Below w3.heap.size w3 wA) := by unfold Hid; rw [hwA]; exact hbelI.setCell (p := ⟨w3.heap.size, 0, none⟩) (Nat.le_refl _) _
          have HWA := Lib.hid hwA
          have HSX : Hid (∀ W, Below wA.heap.size wA W → W.cell? ⟨w.heap.size, 1, none⟩ = some (.int .i64 b)) := fun W hW => (HC2.out _ (bel_on DA.out hW)).1
          have HSY : Hid (∀ W, Below wA.heap.size wA W → ∀ v, (W.setCell ⟨w3.heap.size, 1, none⟩ v).cell? ⟨w.heap.size, 1, none⟩ = some (.int .i64 b)) := fun W hW v => (HC2.out _ ((bel_on DA.out hW).setCell (p := ⟨w3.heap.size, 1, none⟩) (Nat.le_refl _) v)).1
          obtain ⟨lp, hlp⟩ : ∃ lp, (digs (sall b l (i + 1))).length = lp := ⟨_, rfl⟩
          have HML : Hid (∀ O o W, Below wA.heap.size wA W → NR W O o (digs b.toNat) → Calls Tryz.prog 145 #[.slice M li m, .slice O lb o] W fun e w' => (∃ P p, e = .returned (.tuple #[.slice P lp p, .int .i64 0]) ∧ NR w' P p (digs (sall b l (i + 1)))) ∧ Below W.heap.size W w') := fun O o W hW hO => by
            have hss := HSS.out i HIN1.out
            rw [← hlp, ← hss]
            exact mulD_any (by rw [hss]; exact sm_allS (HSA.out _ (by have := HIN1.out; omega))) (sm_allS (HSA.out i HIX.out)) (sm_small (by omega)) HLI.out HLB.out (LA.out.below hW) hO
          have HLP := Lib.hid hlp
          clear hl0 hwA hlp hbelI hbel
          go_wp2_with (rw [← HWA.out])
          clear c90 c50 f50
          refine wp_region_noPanic ?_
          obtain ⟨v0, hv0⟩ : ∃ W, W = wA.drew := ⟨_, rfl⟩
          have k0 : Below wA.heap.size wA v0 := by rw [hv0]; exact (Below.refl _ _).drew
          refine wp_region_held_drew (S := fun W => W.cell? ⟨w.heap.size, 1, none⟩ = some (.int .i64 b)) (by kernel_rfl) (by rw [← hv0]; exact HSX.out _ k0) (fun hS0 => ?_)
          rw [← hv0] at hS0 ⊢
          clear hv0
          refine hd_take 0 (.pointer (some ⟨w3.heap.size, 1, none⟩)) rfl rfl (by kernel_rfl) (by kernel_rfl) (by kernel_rfl) (fun _ _ _ h => h) (fun w hw => by go_simp) hS0 ?_
          refine hd_take 2 (.pointer (some ⟨w.heap.size, 1, none⟩)) rfl rfl (by kernel_rfl) (by kernel_rfl) (by kernel_rfl) (fun _ _ _ h => h) (fun w hw => by go_simp) hS0 ?_
          simp only [List.getElem_toArray, List.getElem_cons_succ, List.getElem_cons_zero, Act.put, List.setIfInBounds_toArray, List.set_cons_zero, List.set_cons_succ]
          refine hd_take 3 (.int .i64 b) rfl rfl (by kernel_rfl) (by kernel_rfl) (by kernel_rfl) (fun _ _ _ h => h) (fun w hw => by have hx := hw; simp [go_sem, hx]) hS0 ?_
          simp only [List.getElem_toArray, List.getElem_cons_succ, List.getElem_cons_zero, Act.put, List.setIfInBounds_toArray, List.set_cons_zero, List.set_cons_succ]
          refine hd_take 4 (.int .u64 b) rfl rfl (by kernel_rfl) (by kernel_rfl) (by kernel_rfl) (fun _ _ _ h => h) (fun w hw => by simp [go_sem, ewb]) hS0 ?_
          simp only [List.getElem_toArray, List.getElem_cons_succ, List.getElem_cons_zero, Act.put, List.setIfInBounds_toArray, List.set_cons_zero, List.set_cons_succ]
          have K5_0 := (BA.out.below' k0).cell 1
          refine hd_two 1 5 (by kernel_rfl) (op_run (.slice M li m) v0 rfl rfl (by have hx := K5_0; simp [go_sem, hx]) ⟨hS0, ?_⟩) (op_call 159 #[.int .u64 b] rfl rfl (by go_simp) ((HOF.out _).mono ?_))
          · simp only [List.getElem_toArray, List.getElem_cons_succ, List.getElem_cons_zero, Act.put, List.setIfInBounds_toArray, List.set_cons_zero, List.set_cons_succ]
            refine hd_calls 5 159 #[.int .u64 b] rfl rfl (by kernel_rfl) (by go_simp) ((HOF.out _).mono ?_)
            rintro e v1 ⟨⟨O5, o5, rfl, ho5⟩, hb1⟩
            have k1 := bel_on k0 hb1
            have hS1 := HSX.out _ k1
            refine ⟨_, rfl, hS1, ?_⟩
            simp only [List.getElem_toArray, List.getElem_cons_succ, List.getElem_cons_zero, Act.put, List.setIfInBounds_toArray, List.set_cons_zero, List.set_cons_succ]
            refine hd_calls 6 145 #[.slice M li m, .slice O5 lb o5] rfl rfl (by kernel_rfl) (by go_simp) ((HML.out _ _ _ k1 ho5).mono ?_)
            rintro e v2 ⟨⟨P, p, rfl, hP⟩, hb2⟩
            have k2 := bel_on k1 hb2
            have hS2 := HSX.out _ k2
            refine ⟨_, rfl, hS2, ?_⟩
            simp only [List.getElem_toArray, List.getElem_cons_succ, List.getElem_cons_zero, Act.put, List.setIfInBounds_toArray, List.set_cons_zero, List.set_cons_succ]
            refine hd_take 7 (.slice P lp p) rfl rfl (by kernel_rfl) (by kernel_rfl) (by kernel_rfl) (fun _ _ _ h => h) (fun w hw => by go_simp) hS2 ?_
            refine hd_take 8 (.int .i64 0) rfl rfl (by kernel_rfl) (by kernel_rfl) (by kernel_rfl) (fun _ _ _ h => h) (fun w hw => by go_simp) hS2 ?_
            simp only [List.getElem_toArray, List.getElem_cons_succ, List.getElem_cons_zero, Act.put, List.setIfInBounds_toArray, List.set_cons_zero, List.set_cons_succ]
            refine hd_calls 9 107 #[.slice P lp p, .int .i64 0] rfl rfl (by kernel_rfl) (by go_simp) ((HMU.out P lp p _).mono ?_)
            rintro e v3 ⟨rfl, hb3⟩
            have k3 := bel_on k2 hb3
            have hS3 := HSX.out _ k3
            refine ⟨_, rfl, hS3, ?_⟩
            simp only [List.getElem_toArray, List.getElem_cons_succ, List.getElem_cons_zero, Act.put, List.setIfInBounds_toArray, List.set_cons_zero, List.set_cons_succ]
            refine hd_take 10 (.pointer (some ⟨w3.heap.size, 1, none⟩)) rfl rfl (by kernel_rfl) (by kernel_rfl) (by kernel_rfl) (fun _ _ _ h => h) (fun w hw => by go_simp) hS3 ?_
            simp only [List.getElem_toArray, List.getElem_cons_succ, List.getElem_cons_zero, Act.put, List.setIfInBounds_toArray, List.set_cons_zero, List.set_cons_succ]
            have BB := BA.out.below' k3
            have kc := BB.cell 1
            have kf := BB.frozen 1
            have hS4 := HSY.out _ k3 (.slice P lp p)
            refine hd_sole 11 (by kernel_rfl) (op_skip (v3.setCell ⟨w3.heap.size, 1, none⟩ (.slice P lp p)) rfl rfl (by simp [go_sem, kc, kf]) ⟨hS4, ?_⟩)
            refine wpAnyH_done (by kernel_rfl) (NoPanic.normal ?_) _
            simp only [List.getElem_toArray, List.getElem_cons_succ, List.getElem_cons_zero, Act.put, List.setIfInBounds_toArray, List.set_cons_zero, List.set_cons_succ]
            have BF := BB.set_ 1 (.slice P lp p)
            have NF1 := (NA.out.below k3).keep2 BB 1 (.slice P lp p)
            have NP1 := (hP.below hb3).keep2 BB 1 (.slice P lp p)
            have DF := (bel_on DA.out k3).setCell (p := ⟨w3.heap.size, 1, none⟩) (Nat.le_refl _) (.slice P lp p)
            clear kc kf
            go_wp2_with fail
            go_roundw
            case rel => exact ⟨i + 1, _, p, P, by omega, by go_num, by rw [HLP.out]; exact BF, NF1, NP1, DF⟩
            case measure => simp [intOf]; omega
          · rintro e v1 ⟨⟨O5, o5, rfl, ho5⟩, hb1⟩
            have k1 := bel_on k0 hb1
            have hS1 := HSX.out _ k1
            refine ⟨_, rfl, hS1, ?_⟩
            simp only [List.getElem_toArray, List.getElem_cons_succ, List.getElem_cons_zero, Act.put, List.setIfInBounds_toArray, List.set_cons_zero, List.set_cons_succ]
            have K5_1 := (BA.out.below' k1).cell 1
            refine hd_sole 1 (by kernel_rfl) (op_run (.slice M li m) v1 rfl rfl (by have hx := K5_1; simp [go_sem, hx]) ⟨hS1, ?_⟩)
            simp only [List.getElem_toArray, List.getElem_cons_succ, List.getElem_cons_zero, Act.put, List.setIfInBounds_toArray, List.set_cons_zero, List.set_cons_succ]
            refine hd_calls 6 145 #[.slice M li m, .slice O5 lb o5] rfl rfl (by kernel_rfl) (by go_simp) ((HML.out _ _ _ k1 ho5).mono ?_)
            rintro e v2 ⟨⟨P, p, rfl, hP⟩, hb2⟩
            have k2 := bel_on k1 hb2
            have hS2 := HSX.out _ k2
            refine ⟨_, rfl, hS2, ?_⟩
            simp only [List.getElem_toArray, List.getElem_cons_succ, List.getElem_cons_zero, Act.put, List.setIfInBounds_toArray, List.set_cons_zero, List.set_cons_succ]
            refine hd_take 7 (.slice P lp p) rfl rfl (by kernel_rfl) (by kernel_rfl) (by kernel_rfl) (fun _ _ _ h => h) (fun w hw => by go_simp) hS2 ?_
            refine hd_take 8 (.int .i64 0) rfl rfl (by kernel_rfl) (by kernel_rfl) (by kernel_rfl) (fun _ _ _ h => h) (fun w hw => by go_simp) hS2 ?_
            simp only [List.getElem_toArray, List.getElem_cons_succ, List.getElem_cons_zero, Act.put, List.setIfInBounds_toArray, List.set_cons_zero, List.set_cons_succ]
            refine hd_calls 9 107 #[.slice P lp p, .int .i64 0] rfl rfl (by kernel_rfl) (by go_simp) ((HMU.out P lp p _).mono ?_)
            rintro e v3 ⟨rfl, hb3⟩
            have k3 := bel_on k2 hb3
            have hS3 := HSX.out _ k3
            refine ⟨_, rfl, hS3, ?_⟩
            simp only [List.getElem_toArray, List.getElem_cons_succ, List.getElem_cons_zero, Act.put, List.setIfInBounds_toArray, List.set_cons_zero, List.set_cons_succ]
            refine hd_take 10 (.pointer (some ⟨w3.heap.size, 1, none⟩)) rfl rfl (by kernel_rfl) (by kernel_rfl) (by kernel_rfl) (fun _ _ _ h => h) (fun w hw => by go_simp) hS3 ?_
            simp only [List.getElem_toArray, List.getElem_cons_succ, List.getElem_cons_zero, Act.put, List.setIfInBounds_toArray, List.set_cons_zero, List.set_cons_succ]
            have BB := BA.out.below' k3
            have kc := BB.cell 1
            have kf := BB.frozen 1
            have hS4 := HSY.out _ k3 (.slice P lp p)
            refine hd_sole 11 (by kernel_rfl) (op_skip (v3.setCell ⟨w3.heap.size, 1, none⟩ (.slice P lp p)) rfl rfl (by simp [go_sem, kc, kf]) ⟨hS4, ?_⟩)
            refine wpAnyH_done (by kernel_rfl) (NoPanic.normal ?_) _
            simp only [List.getElem_toArray, List.getElem_cons_succ, List.getElem_cons_zero, Act.put, List.setIfInBounds_toArray, List.set_cons_zero, List.set_cons_succ]
            have BF := BB.set_ 1 (.slice P lp p)
            have NF1 := (NA.out.below k3).keep2 BB 1 (.slice P lp p)
            have NP1 := (hP.below hb3).keep2 BB 1 (.slice P lp p)
            have DF := (bel_on DA.out k3).setCell (p := ⟨w3.heap.size, 1, none⟩) (Nat.le_refl _) (.slice P lp p)
            clear kc kf
            go_wp2_with fail
            go_roundw
            case rel => exact ⟨i + 1, _, p, P, by omega, by go_num, by rw [HLP.out]; exact BF, NF1, NP1, DF⟩
            case measure => simp [intOf]; omega
        · intro sx vx w7 cnt7 hws hls hfs hr7 hlt7 hg7 hs7 hen
          have hin2 := (HSV.out sx hws).2 (by rw [hfs]; simp)
          obtain ⟨X, cx, hvx, hnx⟩ : ∃ X cx, vx = .slice X (digs (scnt b l y i sx)).length cx ∧ NR wr X cx (digs (scnt b l y i sx)) := by
            rcases (HSV.out sx hws).1 with ⟨h1, h2⟩ | ⟨A, c, h1, h2⟩
            · rw [h1] at hfs; cases hfs
            · rw [h1] at hfs; injection hfs with e; exact ⟨A, c, e.symm, h2⟩
          subst hvx
          obtain ⟨hs1, hs2⟩ := hin2
          have hno := HR.out.noCells
          obtain ⟨S51, S52, S53⟩ := S5.out
          have HLT := Lib.hid hlt7
          have R7 := Lib.hid hr7
          have D7 : Hid (Below w3.heap.size w3 w7) := hbelI.grown hg7 hbelI.size (fun j hj => by cases hj; exact DM.out.size)
          have V7 : Hid (SV b l y i w7 f) := fun s hs => ⟨(HSV.out s hs).1.grownN hg7 hno, (HSV.out s hs).2⟩
          have N7 : Hid (NM w7 (w5.heap.size + 1) 5000 (partW (gA b l y) (gB b l y) (cA b l) (cB l) i left) (-(32 * ((i + 1 : Nat) : Int))) (32 * ((i + 1 : Nat) : Int))) := by
            obtain ⟨F, hm, hv⟩ := HNX.out
            exact ⟨F, hm.kept hg7 (by simp; omega), fun s hs => ⟨(hv s hs).1.grownN hg7 hno, (hv s hs).2⟩⟩
          have P7 := Lib.hid (HP8.out.grownM hg7 (by omega))
          have Q7 := Lib.hid (HP9.out.grownM hg7 (by omega))
          have B7 := Lib.hid (HB5.out.grownM hg7 (by have := DM.out.size; omega))
          have L7 : Hid (NR w7 M m (digs (sall b l i))) := HL.out.grownN hg7 hno
          have X7 : Hid (NR w7 X cx (digs (scnt b l y i sx))) := hnx.grownN hg7 hno
          have HKEEP : Hid (∀ W W' hh, Below w3.heap.size w3 W → NM W (w5.heap.size + 1) 5000 hh (-(32 * ((i + 1 : Nat) : Int))) (32 * ((i + 1 : Nat) : Int)) → W.grownBy W' (some (w5.heap.size + 1)) → Below w3.heap.size w3 W' ∧
              (∀ lft cn, MFR Tryz.prog 3 W bm wm.heap.size 5000 f lft cn → MFR Tryz.prog 3 W' bm wm.heap.size 5000 f lft cn) ∧ (SV b l y i W f → SV b l y i W' f) ∧
              (∀ g t cs, g ≠ w5.heap.size + 1 → Blk W g t cs → Blk W' g t cs) ∧ (∀ A c ll, NR W A c ll → NR W' A c ll)) := fun W W' hh hD hN hG => by
            obtain ⟨F, hm⟩ := hN.mf
            exact ⟨hD.grown hG hD.size (fun j hj => by cases hj; omega), fun lft cn hR => hR.kept hG (by simp; omega) (by simp; omega), fun hS s hs => ⟨(hS s hs).1.grownM hm hG, (hS s hs).2⟩,
              fun g t cs hne hB => hB.grownM hG hne, fun A c ll hn => hn.grownM hm hG⟩
          have hcle : scnt b l y i sx ≤ 32 ^ 64 := Nat.le_trans (count_le (gA b l y) (gB b l y) (cA b l) (cB l) i sx) (HSA.out i HIX.out)
          have hall : allS (cA b l) (cB l) (i + 1) ≤ 32 ^ 64 := HSA.out (i + 1) HIN1.out
          obtain ⟨lx, hlx⟩ : ∃ lx, (digs (scnt b l y i sx)).length = lx := ⟨_, rfl⟩
          have HPUT1 : Hid (Calls Tryz.prog 158 #[.int .i64 (sx + p0), .slice X lx cx, .int .i64 (a0 : Int), .pointer (some ⟨w5.heap.size + 2, 0, none⟩)] w7 fun e w' => e = .returned (.tuple #[]) ∧ NM w' (w5.heap.size + 1) 5000 (putOne (gA b l y) (gB b l y) (cA b l) (cB l) i left sx) (-(32 * ((i + 1 : Nat) : Int))) (32 * ((i + 1 : Nat) : Int)) ∧ w7.grownBy w' (some (w5.heap.size + 1))) := by
            rw [← hlx]
            have hle := putOne_le (gA b l y) (gB b l y) (cA b l) (cB l) (n := i) hls
            rw [putOne_at, EP0.out, ECA.out] at hle
            refine (put_any (w5.heap.size + 2) (w5.heap.size + 1) 5000 _ _ _ (sx + p0) X cx (scnt b l y i sx) a0 w7 (Q7.out.cell 0) (by omega) N7.out X7.out ⟨by omega, by omega⟩ ⟨by omega, by omega⟩ (by omega) (sm_allS hcle) (sm_wide hcle (by omega)) (sm_allS (Nat.le_trans hle hall)) (by unfold maxLen; omega)).mono fun e w' hq => ⟨hq.1, (hq.2.1.fit (by omega) (by omega)).congr fun t ht => ?_, hq.2.2⟩
            unfold putOne
            rw [EP0.out, ECA.out]; rfl
          have HPUT2 : Hid (∀ W, Blk W (w5.heap.size + 2) 120 #[.map (some (w5.heap.size + 1))] → NM W (w5.heap.size + 1) 5000 (putOne (gA b l y) (gB b l y) (cA b l) (cB l) i left sx) (-(32 * ((i + 1 : Nat) : Int))) (32 * ((i + 1 : Nat) : Int)) → NR W X cx (digs (scnt b l y i sx)) → Calls Tryz.prog 158 #[.int .i64 (sx + p1), .slice X lx cx, .int .i64 (a1 : Int), .pointer (some ⟨w5.heap.size + 2, 0, none⟩)] W fun e w' => e = .returned (.tuple #[]) ∧ NM w' (w5.heap.size + 1) 5000 (partW (gA b l y) (gB b l y) (cA b l) (cB l) i (fun z => left z && !(z == sx))) (-(32 * ((i + 1 : Nat) : Int))) (32 * ((i + 1 : Nat) : Int)) ∧ W.grownBy w' (some (w5.heap.size + 1))) := fun W hQ hN hX => by
            rw [← hlx]
            have hle := putTwo_le (gA b l y) (gB b l y) (cA b l) (cB l) (n := i) hls
            rw [EP1.out, ECB.out] at hle
            refine (put_any (w5.heap.size + 2) (w5.heap.size + 1) 5000 _ _ _ (sx + p1) X cx (scnt b l y i sx) a1 W (hQ.cell 0) (by omega) hN hX ⟨by omega, by omega⟩ ⟨by omega, by omega⟩ (by omega) (sm_allS hcle) (sm_wide hcle (by omega)) (sm_allS (Nat.le_trans hle hall)) (by unfold maxLen; omega)).mono fun e w' hq => ⟨hq.1, (hq.2.1.fit (by omega) (by omega)).congr fun t ht => ?_, hq.2.2⟩
            rw [partW_two (gA b l y) (gB b l y) (cA b l) (cB l) hls, EP1.out, ECB.out]; rfl
          rw [hlx] at hen ⊢
          have c80 := P7.out.cell 0
          have cc := (HC2.out _ D7.out).1
          have HS5 := Lib.hid S5.out
          clear hws hls hfs hr7 hlt7 hg7 hs7 hnx hno hcle hall hlx S51 S52 S53
          go_wp2_with fail
          refine HPUT1.out.mono ?_
          rintro e w8 ⟨rfl, hN8, hG8⟩
          obtain ⟨hD8, hR8, hV8, hB8, hL8⟩ := HKEEP.out _ _ _ D7.out N7.out hG8
          have D8 := Lib.hid hD8
          have R8 := Lib.hid (hR8 _ _ R7.out)
          have V8 := Lib.hid (hV8 V7.out)
          have P8 := Lib.hid (hB8 _ _ _ (by omega) P7.out)
          have Q8 := Lib.hid (hB8 _ _ _ (by omega) Q7.out)
          have B8' := Lib.hid (hB8 _ _ _ (by have := HS5.out; omega) B7.out)
          have L8 := Lib.hid (hL8 _ _ _ L7.out)
          have X8 := Lib.hid (hL8 _ _ _ X7.out)
          have N8 := Lib.hid hN8
          have c81 := P8.out.cell 1
          clear hD8 hR8 hV8 hB8 hL8 hN8 hG8 c80 cc
          go_wp2_with fail
          refine (HPUT2.out _ Q8.out N8.out X8.out).mono ?_
          rintro e w9 ⟨rfl, hN9, hG9⟩
          obtain ⟨hD9, hR9, hV9, hB9, hL9⟩ := HKEEP.out _ _ _ D8.out N8.out hG9
          have D9 := hD9
          have R9 := Lib.hid (hR9 _ _ R8.out)
          have V9 := Lib.hid (hV9 V8.out)
          have P9 := Lib.hid (hB9 _ _ _ (by omega) P8.out)
          have Q9 := Lib.hid (hB9 _ _ _ (by omega) Q8.out)
          have B9' := Lib.hid (hB9 _ _ _ (by have := HS5.out; omega) B8'.out)
          have L9 := Lib.hid (hL9 _ _ _ L8.out)
          have N9 := Lib.hid hN9
          clear hD9 hR9 hV9 hB9 hL9 hN9 hG9 c81
          go_wp2_with fail
          go_roundw
          case rel => exact ⟨_, cnt7, R9.out, V9.out, N9.out, P9.out, Q9.out, B9'.out, L9.out, D9⟩
          case measure => rw [R9.out.left_eq, HR.out.left_eq]; exact HLT.out
    · obtain rfl : i = n := by omega
      have c50 := HBS.out.cell 0
      have c51 := HBS.out.cell 1
      have R0 := HY3.out _ hbel
      have r0 := R0.cell 0
      have r1 := R0.cell 1
      have f0 := R0.frozen 0
      have f1 := R0.frozen 1
      have RB := (R0.set_ 0 (.map (some bm))).set_ 1 (.slice M (digs (sall b l i)).length m)
      have NE := (HNM.out.keep2 R0 0 (.map (some bm))).keep2 (R0.set_ 0 (.map (some bm))) 1 (.slice M (digs (sall b l i)).length m)
      have NF := (HNR.out.keep2 R0 0 (.map (some bm))).keep2 (R0.set_ 0 (.map (some bm))) 1 (.slice M (digs (sall b l i)).length m)
      have DF : Below w.heap.size w ((wr.setCell ⟨w.heap.size + 1, 0, none⟩ (.map (some bm))).setCell ⟨w.heap.size + 1, 1, none⟩ (.slice M (digs (sall b l i)).length m)) := ((HBW.out _ hbel).setCell (p := ⟨w.heap.size + 1, 0, none⟩) (by simp) _).setCell (p := ⟨w.heap.size + 1, 1, none⟩) (by simp) _
      have HRB := Lib.hid RB
      have HNE := Lib.hid NE
      have HNF := Lib.hid NF
      have HDF := Lib.hid DF
      clear RB NE NF DF
      go_wp2_with fail
      exact bodyPost_ret (results_cell_row rfl _ _ (w.heap.size + 1) _ _ (0, 0) _ rfl HRB.out Tryz.underlying122 rfl (by kernel_rfl)) rfl ⟨⟨bm, M, m, rfl, HNE.out.wider (by omega) (by omega), HNF.out⟩, HDF.out⟩
end Go.Proofs.YtenpkmgbaajeeaaGreat

/- Score, of the program and of the reference. -/
namespace Go.Proofs.YtenpkmgbaajeeaaGreat
open Go.RowKit
set_option linter.unusedVariables false
attribute [local go_sem] scC_0 scC_1 scC_2 scC_0a scC_1a scC_2a

theorem scS_no {u b : Int} {l : List Int} {v y : List UInt8} (h : scoresB u b l = false) : scS u b l v y = (0, 70) := by rw [scS, h]; rfl
theorem scS_w {u b : Int} {l : List Int} {v y : List UInt8} (h : scoresB u b l = true) (h2 : wordB v l.length = false) : scS u b l v y = (0, 71) := by rw [scS, if_pos h, h2]; rfl
theorem scS_y {u b : Int} {l : List Int} {v y : List UInt8} (h : scoresB u b l = true) (h2 : copyB y l.length = false) : scS u b l v y = (0, 71) := by rw [scS, if_pos h, h2]; simp
theorem scS_yes {u b : Int} {l : List Int} {v y : List UInt8} (h : scoresB u b l = true) (h1 : wordB v l.length = true) (h2 : copyB y l.length = true) : scS u b l v y = (sumS b l v y l.length, 0) := by rw [scS, if_pos h, if_pos ⟨h1, h2⟩]
theorem wordB_sym {l : List UInt8} {n : Nat} (h : wordB l n = true) : l.length = n ∧ ∀ i, i < n → bt l i ≤ 1 := by
  simp only [wordB, Bool.and_eq_true, decide_eq_true_eq] at h
  exact ⟨h.1, fun i hi => symB_iff.1 h.2 i (by omega)⟩
theorem copyB_sym {l : List UInt8} {n : Nat} (h : copyB l n = true) : l.length = n ∧ ∀ i, i < n → bt l i ≤ 2 := by
  simp only [copyB, Bool.and_eq_true, decide_eq_true_eq] at h
  exact ⟨h.1, fun i hi => symB_iff.1 h.2 i (by omega)⟩
set_option maxHeartbeats 2000000 in
set_option maxRecDepth 100000 in
theorem Score_any (u b : Int) (A : Option Addr) (c : Nat) (l : List Int) (k : List UInt8) (V : Option Addr) (e : Nat) (v : List UInt8) (Y : Option Addr) (d : Nat) (y : List UInt8) (w : World) {n nv ny : Nat} (hn : l.length = n) (hvl : v.length = nv) (hyl : y.length = ny) (h : IR w A c l) (hvr : BR w V e v) (hy : BR w Y d y) (hk : k.length = 16) :
    Calls Tryz.prog 47 #[.agg (scC u b A n c k).toArray, .slice V nv e, .slice Y ny d] w fun er w' => er = .returned (.tuple #[.int .i64 (scS u b l v y).1, .int .i64 (scS u b l v y).2]) ∧ Below w.heap.size w w' := by
  have hlen : (n : Int) ≤ 140737488351232 := by have := h.len; omega
  have HN := Lib.hid hn
  have HVL := Lib.hid hvl
  have HYL := Lib.hid hyl
  have H := Lib.hid h
  have HVR := Lib.hid hvr
  have HY := Lib.hid hy
  have HK := Lib.hid hk
  have b0 := alloc_bel w (.cells (scC u b A n c k).toArray 46)
  have hv : scoresB u b l = false ∨ scoresB u b l = true := by cases scoresB u b l <;> simp
  rcases hv with hv | hv
  · have HV := Lib.hid hv
    have HS := Lib.hid (scS_no (v := v) (y := y) hv)
    clear hn hvl hyl h hvr hy hk hv
    go_enter Tryz.func47, Tryz.ntmps47
    go_wp2_with (first
      | (refine wpList_load_row rfl 46 (.tmp 3) rfl w.heap.size rfl 46 (scC u b A n c k).toArray (0, 0) _ (Blk.new w _ _) Tryz.underlying46 rfl (scC_info u b A n c k HK.out) ?_)
      | (go_at_call 99; refine (CheckScores_any u b A c l k _ HN.out (H.out.below (alloc_bel _ _))).mono ?_; rintro er w1 ⟨rfl, hb1⟩; rw [HV.out, show ckS false = 70 from rfl]; have hB1 := (Blk.new w 46 (scC u b A n c k).toArray).below' hb1; have hc2 := hB1.cell 2; have HB1 := Lib.hid hB1; clear hB1; have b1 := b0.trans (hb1.mono b0.size)))
    go_ret2
    exact ⟨by rw [HS.out]; rfl, b1⟩
  · have HV := Lib.hid hv
    have hwv : wordB v n = false ∨ wordB v n = true := by cases wordB v n <;> simp
    rcases hwv with hwb | hwb
    · have HWB := Lib.hid hwb
      have HS := Lib.hid (scS_w (y := y) hv (by rw [hn]; exact hwb))
      clear hn hvl hyl h hvr hy hk hv hwb
      go_enter Tryz.func47, Tryz.ntmps47
      go_wp2_with (first
        | (refine wpList_load_row rfl 46 (.tmp 3) rfl w.heap.size rfl 46 (scC u b A n c k).toArray (0, 0) _ (Blk.new w _ _) Tryz.underlying46 rfl (scC_info u b A n c k HK.out) ?_)
        | (go_at_call 99; refine (CheckScores_any u b A c l k _ HN.out (H.out.below (alloc_bel _ _))).mono ?_; rintro er w1 ⟨rfl, hb1⟩; rw [HV.out, show ckS true = 0 from rfl]; have hB1 := (Blk.new w 46 (scC u b A n c k).toArray).below' hb1; have hc2 := hB1.cell 2; have HB1 := Lib.hid hB1; clear hB1; have b1 := b0.trans (hb1.mono b0.size))
        | (go_at_call 97; refine (isWord_any V e v n _ HVL.out (HVR.out.below b1) (by omega)).mono ?_; rintro er w2 ⟨rfl, hb2⟩; rw [HWB.out]; have hB2 := HB1.out.below' hb2; have hc2' := hB2.cell 2; have HB2 := Lib.hid hB2; clear hB2; have b2 := b1.trans (hb2.mono b1.size)))
      go_ret2
      exact ⟨by rw [HS.out]; rfl, b2⟩
    · have HWB := Lib.hid hwb
      have hcv : copyB y n = false ∨ copyB y n = true := by cases copyB y n <;> simp
      rcases hcv with hcb | hcb
      · have HCB := Lib.hid hcb
        have HS := Lib.hid (scS_y (v := v) hv (by rw [hn]; exact hcb))
        clear hn hvl hyl h hvr hy hk hv hwb hcb
        go_enter Tryz.func47, Tryz.ntmps47
        go_wp2_with (first
          | (refine wpList_load_row rfl 46 (.tmp 3) rfl w.heap.size rfl 46 (scC u b A n c k).toArray (0, 0) _ (Blk.new w _ _) Tryz.underlying46 rfl (scC_info u b A n c k HK.out) ?_)
          | (go_at_call 99; refine (CheckScores_any u b A c l k _ HN.out (H.out.below (alloc_bel _ _))).mono ?_; rintro er w1 ⟨rfl, hb1⟩; rw [HV.out, show ckS true = 0 from rfl]; have hB1 := (Blk.new w 46 (scC u b A n c k).toArray).below' hb1; have hc2 := hB1.cell 2; have HB1 := Lib.hid hB1; clear hB1; have b1 := b0.trans (hb1.mono b0.size))
          | (go_at_call 97; refine (isWord_any V e v n _ HVL.out (HVR.out.below b1) (by omega)).mono ?_; rintro er w2 ⟨rfl, hb2⟩; rw [HWB.out]; have hB2 := HB1.out.below' hb2; have hc2' := hB2.cell 2; have HB2 := Lib.hid hB2; clear hB2; have b2 := b1.trans (hb2.mono b1.size))
          | (go_at_call 93; refine (isCopy_any Y d y n _ HYL.out (HY.out.below b2) (by omega)).mono ?_; rintro er w3 ⟨rfl, hb3⟩; rw [HCB.out]; have HB3 := Lib.hid (HB2.out.below' hb3); have b3 := b2.trans (hb3.mono b2.size)))
        go_ret2
        exact ⟨by rw [HS.out]; rfl, b3⟩
      · have HCB := Lib.hid hcb
        have HS := Lib.hid (scS_yes hv (by rw [hn]; exact hwb) (by rw [hn]; exact hcb))
        obtain ⟨e1, e2⟩ := wordB_sym hwb
        obtain ⟨e3, e4⟩ := copyB_sym hcb
        have E1 : Hid (nv = n) := by unfold Hid; omega
        have E3 : Hid (ny = n) := by unfold Hid; omega
        have E2 := Lib.hid e2
        have E4 := Lib.hid e4
        have HVL2 := Lib.hid e1
        have HYL2 := Lib.hid e3
        obtain rfl : nv = n := by omega
        obtain rfl : ny = nv := by omega
        clear hn hvl hyl h hvr hy hk hv hwb hcb e1 e2 e3 e4 E1 E3
        go_enter Tryz.func47, Tryz.ntmps47
        go_wp2_with (first
          | (refine wpList_load_row rfl 46 (.tmp 3) rfl w.heap.size rfl 46 (scC u b A ny c k).toArray (0, 0) _ (Blk.new w _ _) Tryz.underlying46 rfl (scC_info u b A ny c k HK.out) ?_)
          | (go_at_call 99; refine (CheckScores_any u b A c l k _ HN.out (H.out.below (alloc_bel _ _))).mono ?_; rintro er w1 ⟨rfl, hb1⟩; rw [HV.out, show ckS true = 0 from rfl]; have hB1 := (Blk.new w 46 (scC u b A ny c k).toArray).below' hb1; have hc2 := hB1.cell 2; have HB1 := Lib.hid hB1; clear hB1; have b1 := b0.trans (hb1.mono b0.size))
          | (go_at_call 97; refine (isWord_any V e v ny _ HVL.out (HVR.out.below b1) (by omega)).mono ?_; rintro er w2 ⟨rfl, hb2⟩; rw [HWB.out]; have hB2 := HB1.out.below' hb2; have hc2' := hB2.cell 2; have HB2 := Lib.hid hB2; clear hB2; have b2 := b1.trans (hb2.mono b1.size))
          | (go_at_call 93; refine (isCopy_any Y d y ny _ HYL.out (HY.out.below b2) (by omega)).mono ?_; rintro er w3 ⟨rfl, hb3⟩; rw [HCB.out]; have HB3 := Lib.hid (HB2.out.below' hb3); have b3 := b2.trans (hb3.mono b2.size))
          | (refine wpList_load_row rfl 46 (.tmp 3) rfl w.heap.size rfl 46 (scC u b A ny c k).toArray (0, 0) _ HB3.out Tryz.underlying46 rfl (scC_info u b A ny c k HK.out) ?_)
          | (go_at_call 87; refine (score_any u b A c l k V e v Y d y _ HN.out HVL2.out HYL2.out (H.out.below b3) (HVR.out.below b3) (HY.out.below b3) HK.out HV.out E2.out E4.out).mono ?_; rintro er w5 ⟨rfl, hb5⟩))
        go_ret2
        exact ⟨by rw [HS.out, HN.out]; rfl, b3.trans (hb5.mono b3.size)⟩

end Go.Proofs.YtenpkmgbaajeeaaGreat

/- The spread for a copy, or an error. -/
namespace Go.Proofs.YtenpkmgbaajeeaaGreat
open Go.RowKit Go.Maps
set_option linter.unusedVariables false
set_option linter.unusedSimpArgs false

/-- The errors of a code of scores and a copy. -/
def ckSC (u b : Int) (l : List Int) (y : List UInt8) : Int := if scoresB u b l = true then (if copyB y l.length = true then 0 else 71) else 70
/-- A spread in memory. -/
def Spread (w : World) (v : Value) (b : Int) (l : List Int) (y : List UInt8) : Prop := ∃ bm M m, v = .agg #[.map (some bm), .slice M (digs (sall b l l.length)).length m] ∧ NM w bm 5000 (scnt b l y l.length) (-2048) 2048 ∧ NR w M m (digs (sall b l l.length))
theorem ckSC_bad {u b : Int} {l : List Int} {y : List UInt8} (h : scoresB u b l = false) : ckSC u b l y = 70 := by rw [ckSC, h]; rfl
theorem ckSC_copy {u b : Int} {l : List Int} {y : List UInt8} (h : scoresB u b l = true) (h2 : copyB y l.length = false) : ckSC u b l y = 71 := by rw [ckSC, h, h2]; rfl
theorem ckSC_ok {u b : Int} {l : List Int} {y : List UInt8} (h : scoresB u b l = true) (h2 : copyB y l.length = true) : ckSC u b l y = 0 := by rw [ckSC, h, h2]; rfl
theorem ckSC_zero {u b : Int} {l : List Int} {y : List UInt8} (h : ckSC u b l y = 0) : scoresB u b l = true ∧ copyB y l.length = true := by
  unfold ckSC at h
  split at h
  · rename_i h1
    split at h
    · rename_i h2; exact ⟨h1, h2⟩
    · cases h
  · cases h
theorem score_range {u b : Int} {l : List Int} {y : List UInt8} (h : scoresB u b l = true) : -2048 ≤ slow b l y l.length ∧ shigh b l y l.length ≤ 2048 ∧ sall b l l.length ≤ 32 ^ 64 ∧ 0 < sall b l l.length := by
  obtain ⟨⟨o1, o2, o3, o4, o5, o6⟩, o7⟩ := scoresB_parts h
  have h1 := score_bds (y := y) ⟨o3, o4⟩ o7 (Nat.le_refl _)
  exact ⟨by omega, by omega, sall_le ⟨o3, o4⟩ o7 (Nat.le_refl _) o6, sall_pos ⟨o3, o4⟩ o7 (Nat.le_refl _)⟩
set_option maxHeartbeats 2000000 in
set_option maxRecDepth 100000 in
theorem chances_bad (u b : Int) (A : Option Addr) (c : Nat) (l : List Int) (k : List UInt8) (Y : Option Addr) (d : Nat) (y : List UInt8) (w : World) {n ny : Nat} (hn : l.length = n) (hyl : y.length = ny) (h : IR w A c l) (hy : BR w Y d y) (hk : k.length = 16) (hv : scoresB u b l = false) :
    Calls Tryz.prog 77 #[.agg (scC u b A n c k).toArray, .slice Y ny d] w fun e w' => e = .returned (.tuple #[.agg #[.map none, .slice none 0 0], .int .i64 70]) ∧ Below w.heap.size w w' := by
  have hlen : (n : Int) ≤ 140737488351232 := by have := h.len; omega
  have HN := Lib.hid hn
  have HYL := Lib.hid hyl
  have H := Lib.hid h
  have HY := Lib.hid hy
  have HK := Lib.hid hk
  have HIN := Lib.hid (scC_info u b A n c k hk)
  have HCK : Hid (∀ W, Below w.heap.size w W → Calls Tryz.prog 99 #[.agg (scC u b A n c k).toArray] W fun e w' => e = .returned (.int .i64 (ckS (scoresB u b l))) ∧ Below W.heap.size W w') := fun W hW => CheckScores_any u b A c l k W hn (h.below hW)
  have HCP : Hid (∀ W, Below w.heap.size w W → Calls Tryz.prog 93 #[.slice Y ny d, .int .i64 (n : Int)] W fun e w' => e = .returned (.bool (copyB y n)) ∧ Below W.heap.size W w') := fun W hW => isCopy_any Y d y n W hyl (hy.below hW) (by omega)
  obtain ⟨W0, hW0⟩ : ∃ W : World, W = (w.alloc (.cells (scC u b A n c k).toArray 46)).alloc (.cells #[.map none, .slice none 0 0] 122) := ⟨_, rfl⟩
  have b0 : Hid (Below w.heap.size w W0) := by unfold Hid; rw [hW0]; exact alloc2_bel _ _ _
  have x0 : Hid (Blk W0 w.heap.size 46 (scC u b A n c k).toArray) := by unfold Hid; rw [hW0]; exact blk_b0 w _ _ _
  have y0 : Hid (Blk W0 (w.heap.size + 1) 122 #[.map none, .slice none 0 0]) := by unfold Hid; rw [hW0]; exact blk_b1 w _ _ _
  have HW0 := Lib.hid hW0
  have HV := Lib.hid hv
  clear hn hyl h hy hk hW0 hv
  go_enter Tryz.func77, Tryz.ntmps77
  go_wp2_with (first
    | (rw [← HW0.out])
    | (refine wpList_load_row rfl 46 (.tmp 2) rfl w.heap.size rfl 46 (scC u b A n c k).toArray (0, 0) _ x0.out Tryz.underlying46 rfl HIN.out ?_)
    | (go_at_call 99; (with_reducible refine (HCK.out _ b0.out).mono ?_); rintro e w1 ⟨rfl, hb1⟩; rw [HV.out, show ckS false = 70 from rfl]; have X1 := Lib.hid (x0.out.below' hb1); have Y1 := Lib.hid (y0.out.below' hb1); have D1 := Lib.hid (bel_on b0.out hb1); have c2 : w1.cell? ⟨w.heap.size, 2, none⟩ = some (.slice A n c) := X1.out.cell 2; have k0 := Y1.out.cell 0; have k1 := Y1.out.cell 1; have f0 := Y1.out.frozen 0; have f1 := Y1.out.frozen 1; clear hb1))
  have RB := (Y1.out.set_ 0 (.map none)).set_ 1 (.slice none 0 0)
  have DF := (D1.out.setCell (p := ⟨w.heap.size + 1, 0, none⟩) (by simp) (.map none)).setCell (p := ⟨w.heap.size + 1, 1, none⟩) (by simp) (.slice none 0 0)
  have z0 := RB.cell 0
  have z1 := RB.cell 1
  exact bodyPost_ret (v := .tuple #[.agg #[.map none, .slice none 0 0], .int .i64 70]) (by simp [results, Tryz.f77, go_sem, z0, z1, k0, k1, f0, f1]) rfl ⟨rfl, DF⟩
set_option maxHeartbeats 2000000 in
set_option maxRecDepth 100000 in
theorem chances_copy (u b : Int) (A : Option Addr) (c : Nat) (l : List Int) (k : List UInt8) (Y : Option Addr) (d : Nat) (y : List UInt8) (w : World) {n ny : Nat} (hn : l.length = n) (hyl : y.length = ny) (h : IR w A c l) (hy : BR w Y d y) (hk : k.length = 16) (hv : scoresB u b l = true) (hc : copyB y n = false) :
    Calls Tryz.prog 77 #[.agg (scC u b A n c k).toArray, .slice Y ny d] w fun e w' => e = .returned (.tuple #[.agg #[.map none, .slice none 0 0], .int .i64 71]) ∧ Below w.heap.size w w' := by
  have hlen : (n : Int) ≤ 140737488351232 := by have := h.len; omega
  have HN := Lib.hid hn
  have HYL := Lib.hid hyl
  have H := Lib.hid h
  have HY := Lib.hid hy
  have HK := Lib.hid hk
  have HIN := Lib.hid (scC_info u b A n c k hk)
  have HCK : Hid (∀ W, Below w.heap.size w W → Calls Tryz.prog 99 #[.agg (scC u b A n c k).toArray] W fun e w' => e = .returned (.int .i64 (ckS (scoresB u b l))) ∧ Below W.heap.size W w') := fun W hW => CheckScores_any u b A c l k W hn (h.below hW)
  have HCP : Hid (∀ W, Below w.heap.size w W → Calls Tryz.prog 93 #[.slice Y ny d, .int .i64 (n : Int)] W fun e w' => e = .returned (.bool (copyB y n)) ∧ Below W.heap.size W w') := fun W hW => isCopy_any Y d y n W hyl (hy.below hW) (by omega)
  obtain ⟨W0, hW0⟩ : ∃ W : World, W = (w.alloc (.cells (scC u b A n c k).toArray 46)).alloc (.cells #[.map none, .slice none 0 0] 122) := ⟨_, rfl⟩
  have b0 : Hid (Below w.heap.size w W0) := by unfold Hid; rw [hW0]; exact alloc2_bel _ _ _
  have x0 : Hid (Blk W0 w.heap.size 46 (scC u b A n c k).toArray) := by unfold Hid; rw [hW0]; exact blk_b0 w _ _ _
  have y0 : Hid (Blk W0 (w.heap.size + 1) 122 #[.map none, .slice none 0 0]) := by unfold Hid; rw [hW0]; exact blk_b1 w _ _ _
  have HW0 := Lib.hid hW0
  have HV := Lib.hid hv
  have HCB := Lib.hid hc
  clear hn hyl h hy hk hW0 hv hc
  go_enter Tryz.func77, Tryz.ntmps77
  go_wp2_with (first
    | (rw [← HW0.out])
    | (refine wpList_load_row rfl 46 (.tmp 2) rfl w.heap.size rfl 46 (scC u b A n c k).toArray (0, 0) _ x0.out Tryz.underlying46 rfl HIN.out ?_)
    | (go_at_call 99; (with_reducible refine (HCK.out _ b0.out).mono ?_); rintro e w1 ⟨rfl, hb1⟩; rw [HV.out, show ckS true = 0 from rfl]; have X1 := Lib.hid (x0.out.below' hb1); have Y1 := Lib.hid (y0.out.below' hb1); have D1 := Lib.hid (bel_on b0.out hb1); have c2 : w1.cell? ⟨w.heap.size, 2, none⟩ = some (.slice A n c) := X1.out.cell 2; have k0 := Y1.out.cell 0; have k1 := Y1.out.cell 1; have f0 := Y1.out.frozen 0; have f1 := Y1.out.frozen 1; clear hb1)
    | (go_at_call 93; (with_reducible refine (HCP.out _ D1.out).mono ?_); rintro e w2 ⟨rfl, hb2⟩; rw [HCB.out]; clear c2 k0 k1 f0 f1; have X2 := Lib.hid (X1.out.below' hb2); have Y2 := Lib.hid (Y1.out.below' hb2); have D2 := Lib.hid (bel_on D1.out hb2); have k0 := Y2.out.cell 0; have k1 := Y2.out.cell 1; have f0 := Y2.out.frozen 0; have f1 := Y2.out.frozen 1; clear hb2))
  have RB := (Y2.out.set_ 0 (.map none)).set_ 1 (.slice none 0 0)
  have DF := (D2.out.setCell (p := ⟨w.heap.size + 1, 0, none⟩) (by simp) (.map none)).setCell (p := ⟨w.heap.size + 1, 1, none⟩) (by simp) (.slice none 0 0)
  have z0 := RB.cell 0
  have z1 := RB.cell 1
  exact bodyPost_ret (v := .tuple #[.agg #[.map none, .slice none 0 0], .int .i64 71]) (by simp [results, Tryz.f77, go_sem, z0, z1, k0, k1, f0, f1]) rfl ⟨rfl, DF⟩
set_option maxHeartbeats 2000000 in
set_option maxRecDepth 100000 in
theorem chances_good (u b : Int) (A : Option Addr) (c : Nat) (l : List Int) (k : List UInt8) (Y : Option Addr) (d : Nat) (y : List UInt8) (w : World) {n ny : Nat} (hn : l.length = n) (hyl : y.length = ny) (h : IR w A c l) (hy : BR w Y d y) (hk : k.length = 16) (hv : scoresB u b l = true) (hc : copyB y n = true) :
    Calls Tryz.prog 77 #[.agg (scC u b A n c k).toArray, .slice Y ny d] w fun e w' => (∃ v, e = .returned (.tuple #[v, .int .i64 0]) ∧ Spread w' v b l y) ∧ Below w.heap.size w w' := by
  have hlen : (n : Int) ≤ 140737488351232 := by have := h.len; omega
  have HN := Lib.hid hn
  have HYL := Lib.hid hyl
  have H := Lib.hid h
  have HY := Lib.hid hy
  have HK := Lib.hid hk
  have HIN := Lib.hid (scC_info u b A n c k hk)
  have HCK : Hid (∀ W, Below w.heap.size w W → Calls Tryz.prog 99 #[.agg (scC u b A n c k).toArray] W fun e w' => e = .returned (.int .i64 (ckS (scoresB u b l))) ∧ Below W.heap.size W w') := fun W hW => CheckScores_any u b A c l k W hn (h.below hW)
  have HCP : Hid (∀ W, Below w.heap.size w W → Calls Tryz.prog 93 #[.slice Y ny d, .int .i64 (n : Int)] W fun e w' => e = .returned (.bool (copyB y n)) ∧ Below W.heap.size W w') := fun W hW => isCopy_any Y d y n W hyl (hy.below hW) (by omega)
  obtain ⟨W0, hW0⟩ : ∃ W : World, W = (w.alloc (.cells (scC u b A n c k).toArray 46)).alloc (.cells #[.map none, .slice none 0 0] 122) := ⟨_, rfl⟩
  have b0 : Hid (Below w.heap.size w W0) := by unfold Hid; rw [hW0]; exact alloc2_bel _ _ _
  have x0 : Hid (Blk W0 w.heap.size 46 (scC u b A n c k).toArray) := by unfold Hid; rw [hW0]; exact blk_b0 w _ _ _
  have y0 : Hid (Blk W0 (w.heap.size + 1) 122 #[.map none, .slice none 0 0]) := by unfold Hid; rw [hW0]; exact blk_b1 w _ _ _
  have HW0 := Lib.hid hW0
  have HV := Lib.hid hv
  have HCB := Lib.hid hc
  obtain ⟨e3, e4⟩ := copyB_sym hc
  obtain rfl : ny = n := by omega
  have HSP : Hid (∀ W, Below w.heap.size w W → Calls Tryz.prog 126 #[.agg (scC u b A ny c k).toArray, .slice Y ny d] W fun e w' => (∃ bm M m, e = .returned (.agg #[.map (some bm), .slice M (digs (sall b l ny)).length m]) ∧ NM w' bm 5000 (scnt b l y ny) (-2048) 2048 ∧ NR w' M m (digs (sall b l ny))) ∧ Below W.heap.size W w') := fun W hW => spreadOf_any u b A c l k Y d y W hn hyl (h.below hW) (hy.below hW) hk hv e4
  clear hn hyl h hy hk hW0 hv hc e3 e4
  go_enter Tryz.func77, Tryz.ntmps77
  go_wp2_with (first
    | (rw [← HW0.out])
    | (refine wpList_load_row rfl 46 (.tmp 2) rfl w.heap.size rfl 46 (scC u b A ny c k).toArray (0, 0) _ x0.out Tryz.underlying46 rfl HIN.out ?_)
    | (go_at_call 99; (with_reducible refine (HCK.out _ b0.out).mono ?_); rintro e w1 ⟨rfl, hb1⟩; rw [HV.out, show ckS true = 0 from rfl]; have X1 := Lib.hid (x0.out.below' hb1); have Y1 := Lib.hid (y0.out.below' hb1); have D1 := Lib.hid (bel_on b0.out hb1); have c2 : w1.cell? ⟨w.heap.size, 2, none⟩ = some (.slice A ny c) := X1.out.cell 2; have k0 := Y1.out.cell 0; have k1 := Y1.out.cell 1; have f0 := Y1.out.frozen 0; have f1 := Y1.out.frozen 1; clear hb1)
    | (go_at_call 93; (with_reducible refine (HCP.out _ D1.out).mono ?_); rintro e w2 ⟨rfl, hb2⟩; rw [HCB.out]; clear c2 k0 k1 f0 f1; have X2 := Lib.hid (X1.out.below' hb2); have Y2 := Lib.hid (Y1.out.below' hb2); have D2 := Lib.hid (bel_on D1.out hb2); have k0 := Y2.out.cell 0; have k1 := Y2.out.cell 1; have f0 := Y2.out.frozen 0; have f1 := Y2.out.frozen 1; clear hb2)
    | (refine wpList_load_row rfl 46 (.tmp 2) rfl w.heap.size rfl 46 (scC u b A ny c k).toArray (0, 0) _ X2.out Tryz.underlying46 rfl HIN.out ?_)
    | (go_at_call 126; (with_reducible refine (HSP.out _ D2.out).mono ?_); rintro e w3 ⟨⟨bm, M, m, rfl, hm3, hn3⟩, hb3⟩; clear k0 k1 f0 f1; have Y3 := Lib.hid (Y2.out.below' hb3); have D3 := Lib.hid (bel_on D2.out hb3); have M3 := Lib.hid hm3; have N3 := Lib.hid hn3; have k0 := Y3.out.cell 0; have k1 := Y3.out.cell 1; have f0 := Y3.out.frozen 0; have f1 := Y3.out.frozen 1; clear hb3 hm3 hn3))
  have RB := (Y3.out.set_ 0 (.map (some bm))).set_ 1 (.slice M (digs (sall b l ny)).length m)
  have DF := (D3.out.setCell (p := ⟨w.heap.size + 1, 0, none⟩) (by simp) (.map (some bm))).setCell (p := ⟨w.heap.size + 1, 1, none⟩) (by simp) (.slice M (digs (sall b l ny)).length m)
  have NE := (M3.out.keep2 Y3.out 0 (.map (some bm))).keep2 (Y3.out.set_ 0 (.map (some bm))) 1 (.slice M (digs (sall b l ny)).length m)
  have NF := (N3.out.keep2 Y3.out 0 (.map (some bm))).keep2 (Y3.out.set_ 0 (.map (some bm))) 1 (.slice M (digs (sall b l ny)).length m)
  have z0 := RB.cell 0
  have z1 := RB.cell 1
  refine bodyPost_ret (v := .tuple #[.agg #[.map (some bm), .slice M (digs (sall b l ny)).length m], .int .i64 0]) (by simp [results, Tryz.f77, go_sem, z0, z1, k0, k1, f0, f1]) rfl ⟨⟨_, rfl, bm, M, m, by rw [HN.out], by rw [HN.out]; exact NE, by rw [HN.out]; exact NF⟩, DF⟩
end Go.Proofs.YtenpkmgbaajeeaaGreat

/- The sum of the counts of the scores from a number on. -/
namespace Go.Proofs.YtenpkmgbaajeeaaGreat
open Go.RowKit Go.Maps
set_option linter.unusedVariables false
set_option linter.unusedSimpArgs false

theorem sumN_bump {f g : Nat → Nat} {c j : Nat} : ∀ {n : Nat}, j < n → (∀ i, i < n → f i = g i + if i = j then c else 0) → sumN f n = sumN g n + c
  | 0, h, _ => by omega
  | n + 1, hj, h => by
    rw [sumN_succ, sumN_succ, h n (by omega)]
    by_cases e : n = j
    · subst e
      rw [if_pos rfl, sumN_congr (f := f) (g := g) fun i hi => by rw [h i (by omega), if_neg (by omega)]; rfl]
      omega
    · rw [if_neg e, sumN_bump (f := f) (g := g) (c := c) (j := j) (n := n) (by omega) fun i hi => h i (by omega)]
      omega
/-- The sum over the scores from -2048 on that reach z and are not still to come. -/
def rsumW (h : Int → Nat) (left : Int → Bool) (z : Int) : Nat := sumN (fun j => if z ≤ -2048 + (j : Int) ∧ left (-2048 + (j : Int)) = false then h (-2048 + (j : Int)) else 0) 4097
theorem rsumW_zero {h : Int → Nat} {left : Int → Bool} {z : Int} (hl : ∀ s, (-2048 ≤ s ∧ s ≤ 2048) → h s ≠ 0 → left s = true) : rsumW h left z = 0 := sumN_zero fun j hj => by
  by_cases e : h (-2048 + (j : Int)) = 0
  · rw [e]; simp
  · rw [hl _ (by omega) e]; simp
theorem rsumW_step {h : Int → Nat} {left : Int → Bool} {z s : Int} (hs : left s = true) (h1 : -2048 ≤ s) (h2 : s ≤ 2048) : rsumW h (fun t => left t && !(t == s)) z = rsumW h left z + if z ≤ s then h s else 0 := by
  unfold rsumW
  refine sumN_bump (j := (s + 2048).toNat) (by omega) fun i hi => ?_
  dsimp only
  by_cases e : i = (s + 2048).toNat
  · have e2 : -2048 + (i : Int) = s := by omega
    simp only [e2, hs, if_pos e]
    simp
  · have e2 : (-2048 + (i : Int) == s) = false := by rw [beq_eq_false_iff_ne]; omega
    simp only [e2, if_neg e]
    simp
theorem rsumW_end {b : Int} {l : List Int} {y : List UInt8} {n : Nat} {left : Int → Bool} {z : Int} (hlow : -2048 ≤ slow b l y n) (hhigh : shigh b l y n ≤ 2048) (hl : ∀ s, (-2048 ≤ s ∧ s ≤ 2048) → left s = false) : rsumW (scnt b l y n) left z = srch b l y n z := by
  have h1 := count_sum (gA b l y) (gB b l y) (cA b l) (cB l) n (-2048) z 4097 (by unfold shigh at hhigh; omega)
  have h2 : rsumW (scnt b l y n) left z = srch b l y n (max z (-2048)) := by
    unfold rsumW srch
    rw [← h1]
    refine sumN_congr fun j hj => ?_
    rw [hl _ (by omega)]
    simp [scnt]
  rw [h2]
  rcases Int.le_total (-2048) z with h3 | h3
  · rw [Int.max_eq_left h3]
  · unfold slow at hlow
    rw [Int.max_eq_right h3]
    unfold srch
    rw [reach_low _ _ _ _ _ _ hlow, reach_low _ _ _ _ _ _ (by omega)]
theorem rsumW_le {h : Int → Nat} {left : Int → Bool} {z : Int} : rsumW h left z ≤ rsumW h (fun _ => false) z := sumN_le fun j _ => by
  dsimp only
  by_cases e : z ≤ -2048 + (j : Int)
  · cases hl : left (-2048 + (j : Int)) <;> simp [e]
  · simp [e]

set_option maxHeartbeats 8000000 in
set_option maxRecDepth 1000000 in
theorem reach_any (b : Int) (l : List Int) (y : List UInt8) (n bm lm m : Nat) (M : Option Addr) (z : Int) (w : World) (hm : NM w bm 5000 (scnt b l y n) (-2048) 2048) (hlow : -2048 ≤ slow b l y n) (hhigh : shigh b l y n ≤ 2048) (hall : sall b l n ≤ 32 ^ 64) :
    Calls Tryz.prog 78 #[.agg #[.map (some bm), .slice M lm m], .int .i64 z] w fun e w' => (∃ R r, e = .returned (.slice R (digs (srch b l y n z)).length r) ∧ NR w' R r (digs (srch b l y n z))) ∧ Below w.heap.size w w' := by
  obtain ⟨f, hmf, hv⟩ := hm
  have HSB : Hid (∀ left, rsumW (scnt b l y n) left z ≤ 32 ^ 64) := fun left => by
    refine Nat.le_trans rsumW_le (Nat.le_trans (Nat.le_of_eq (rsumW_end hlow hhigh fun _ _ => rfl)) (Nat.le_trans ?_ hall))
    exact reach_all (gA b l y) (gB b l y) (cA b l) (cB l) n z
  have HEND : Hid (∀ left, (∀ s, (-2048 ≤ s ∧ s ≤ 2048) → left s = false) → rsumW (scnt b l y n) left z = srch b l y n z) := fun left hl => rsumW_end hlow hhigh hl
  have HSTART : Hid (rsumW (scnt b l y n) (fun s => (f s).isSome) z = 0) := rsumW_zero fun s hs h0 => by
    have hwf : (Lit.int .i64 s).wf = true := WalkArith.wf_i64 (by omega)
    rcases (hv s hwf).1 with ⟨h1, h2⟩ | ⟨A, c, h1, h2⟩
    · exact absurd h2 h0
    · rw [h1]; rfl
  have HV := Lib.hid hv
  have HMF := Lib.hid hmf
  obtain ⟨W0, hW0⟩ : ∃ W : World, W = w.alloc (.cells #[.map (some bm), .slice M lm m] 122) := ⟨_, rfl⟩
  have b0 : Hid (Below w.heap.size w W0) := by unfold Hid; rw [hW0]; exact alloc_bel _ _
  have x0 : Hid (Blk W0 w.heap.size 122 #[.map (some bm), .slice M lm m]) := by unfold Hid; rw [hW0]; exact Blk.new w _ _
  have c0 : W0.cell? ⟨w.heap.size, 0, none⟩ = some (.map (some bm)) := x0.out.cell 0
  have HW0 := Lib.hid hW0
  have HMU : Hid (∀ (A : Option Addr) n c W, Calls Tryz.prog 107 #[.slice A n c, .int .i64 0] W fun e w' => e = .returned (.slice A n c) ∧ Below W.heap.size W w') := fun A n c W => must_any A n c 0 W
  generalize hG : srch b l y n z = total at *
  generalize hH : scnt b l y n = h at *
  clear hmf hv hlow hhigh hall hW0 hG hH
  go_enter Tryz.func78, Tryz.ntmps78
  go_wp2_with (first
    | (rw [← HW0.out])
    | (at_range; refine wpList_range_mf _ rfl _ 120 rfl 3 25 intKey Tryz.underlying120 bm 5000 f rfl (HMF.out.below b0.out) ?_; intro w6 cnt6 hr6 hg6 hs6; have R6 := Lib.hid hr6; have D6 : Hid (Below w.heap.size w w6) := b0.out.grown hg6 b0.out.size (fun j hj => by cases hj); clear hr6 hg6 hs6))
  try go_frame
  clear c0
  go_loopw [5] (fun vs wr => ∃ (left : Int → Bool) (cnt x : Nat) (R : Option Addr) (r : Nat), vs = .slice R (digs x).length r ∧ Hid (x = rsumW h left z) ∧ Hid (NR wr R r (digs x)) ∧ Hid (MFR Tryz.prog 3 wr bm W0.heap.size 5000 f left cnt) ∧ Below w.heap.size w wr) (fun _ w' => w'.rangeLeft bm W0.heap.size)
  case atStart => exact ⟨_, cnt6, 0, none, 0, rfl, HSTART.out.symm, NR.nil _, R6.out, D6.out⟩
  case round =>
    obtain ⟨left, cnt, x, R, r, rfl, HX, HN, HR, hbel⟩ := hrel
    go_wp2_with (first
      | (at_next; refine wpList_next_mf _ rfl _ rfl 3 intKey Tryz.underlying3 bm W0.heap.size 5000 _ _ _ rfl HR.out ?_ ?_))
    · intro hl0
      have hx : x = total := by rw [HX.out]; exact HEND.out _ fun s hs => hl0 s (WalkArith.wf_i64 (by omega))
      have HX2 := Lib.hid hx
      clear hl0 hx
      go_wp2_with fail
      go_ret
      exact ⟨⟨R, r, by rw [HX2.out]; rfl, by rw [← HX2.out]; exact HN.out⟩, hbel⟩
    · intro sx vx w7 cnt7 hws hls hfs hr7 hlt7 hg7 hs7 hen
      have hin := HV.out sx hws
      have hin2 := hin.2 (by rw [hfs]; simp)
      obtain ⟨X, cx, hvx, hnx⟩ : ∃ X cx, vx = .slice X (digs (h sx)).length cx ∧ NR w X cx (digs (h sx)) := by
        rcases hin.1 with ⟨h1, h2⟩ | ⟨A, c, h1, h2⟩
        · rw [h1] at hfs; cases hfs
        · rw [h1] at hfs; injection hfs with e; exact ⟨A, c, e.symm, h2⟩
      subst hvx
      have hs1 : -2048 ≤ sx := hin2.1
      have hs2 : sx ≤ 2048 := hin2.2
      have R7 := Lib.hid hr7
      have HLT := Lib.hid hlt7
      have D7 : Hid (Below w.heap.size w w7) := hbel.grown hg7 hbel.size (fun j hj => by cases hj; exact b0.out.size)
      have N7 : Hid (NR w7 R r (digs x)) := HN.out.grownN hg7 HR.out.noCells
      have HXX := Lib.hid hnx
      have HST := Lib.hid (rsumW_step (h := h) (z := z) hls hs1 hs2)
      have HLE := Lib.hid (HSB.out (fun t => left t && !(t == sx)))
      obtain ⟨k, hk⟩ : ∃ k, h sx = k := ⟨_, rfl⟩
      rw [hk] at HXX HST hen
      obtain ⟨lk, hlk⟩ : ∃ lk, (digs k).length = lk := ⟨_, rfl⟩
      obtain ⟨lx, hlx⟩ : ∃ lx, (digs x).length = lx := ⟨_, rfl⟩
      rw [hk, hlk]
      rw [hlk] at hen
      rw [hlx]
      clear hws hls hfs hr7 hlt7 hg7 hs7 hin hin2 hnx hk
      by_cases hz : z ≤ sx
      · rw [if_pos hz] at HST
        obtain ⟨t, ht⟩ : ∃ t, x + k = t := ⟨_, rfl⟩
        have HT : Hid (t = rsumW h (fun t => left t && !(t == sx)) z) := by unfold Hid; rw [HST.out, ← HX.out, ht]
        have hsm : Sm (x + k) := by rw [ht]; exact sm_allS (by rw [HT.out]; exact HLE.out)
        obtain ⟨lt, hlt⟩ : ∃ lt, (digs t).length = lt := ⟨_, rfl⟩
        have HAD : Hid (∀ W, Below w7.heap.size w7 W → Calls Tryz.prog 108 #[.slice R lx r, .slice X lk cx] W fun e w' => (∃ T t', e = .returned (.tuple #[.slice T lt t', .int .i64 0]) ∧ NR w' T t' (digs t)) ∧ Below W.heap.size W w') := fun W hW => by
          rw [← hlt, ← ht]
          exact addD_any hsm hlx hlk (N7.out.below hW) (HXX.out.below (bel_on D7.out hW))
        have HLL := Lib.hid hlt
        clear hlt ht hsm hlx hlk
        go_wp2_with (first
          | (go_at_call 108; (with_reducible refine (HAD.out _ (Below.refl _ _)).mono ?_); rintro e w8 ⟨⟨T, t', rfl, hT⟩, hb8⟩)
          | (go_at_call 107; (with_reducible refine (HMU.out _ _ _ _).mono ?_); rintro e w9 ⟨rfl, hb9⟩))
        have hb := bel_on hb8 hb9
        go_roundw
        case rel => exact ⟨_, cnt7, t, T, t', by rw [HLL.out], HT.out, hT.below hb9, R7.out.below hb, bel_on D7.out hb⟩
        case measure => rw [(R7.out.below hb).left_eq, HR.out.left_eq]; exact HLT.out
      · rw [if_neg hz] at HST
        have HT : Hid (x = rsumW h (fun t => left t && !(t == sx)) z) := by unfold Hid; rw [HST.out, ← HX.out]; rfl
        have HLL := Lib.hid hlx
        clear hlx hlk
        go_wp2_with fail
        go_roundw
        case rel => exact ⟨_, cnt7, x, R, r, by rw [HLL.out], HT.out, N7.out, R7.out, D7.out⟩
        case measure => rw [R7.out.left_eq, HR.out.left_eq]; exact HLT.out
end Go.Proofs.YtenpkmgbaajeeaaGreat

/- The bound of a limit: the program's search. -/
namespace Go.Proofs.YtenpkmgbaajeeaaGreat
open Go.RowKit Go.Maps
set_option linter.unusedVariables false
set_option linter.unusedSimpArgs false

def sbnd (b : Int) (l : List Int) (y : List UInt8) (n num den : Nat) : Int := bndN (gA b l y) (gB b l y) (cA b l) (cB l) n num den
def slim (b : Int) (l : List Int) (y : List UInt8) (n num den : Nat) (z : Int) : Bool := decide (srch b l y n z * den ≤ num * sall b l n)
theorem slim_inLim (b : Int) (l : List Int) (y : List UInt8) (n num den : Nat) (z : Int) : slim b l y n num den z = inLim (gA b l y) (gB b l y) (cA b l) (cB l) n num den z := rfl
/-- Where no score lies below a number all words reach it. -/
theorem reach_full {g0 g1 : Nat → Int} {c0 c1 : Nat → Nat} {n : Nat} {z : Int} (hz : ∀ s, s < z → countS g0 g1 c0 c1 n s = 0) : reachS g0 g1 c0 c1 n z = allS c0 c1 n := by
  suffices h : ∀ d : Nat, reachS g0 g1 c0 c1 n z = reachS g0 g1 c0 c1 n (z - (d : Int)) by
    rw [h ((z - lowT g0 g1 n).toNat), reach_low]
    omega
  intro d
  induction d with
  | zero => simp
  | succ d ih =>
    have := reach_step g0 g1 c0 c1 n (z - ((d + 1 : Nat) : Int))
    rw [hz _ (by omega), show z - ((d + 1 : Nat) : Int) + 1 = z - (d : Int) from by omega] at this
    omega

set_option maxHeartbeats 8000000 in
set_option maxRecDepth 1000000 in
theorem bound_any (b : Int) (l : List Int) (y : List UInt8) (n bm lm m : Nat) (M : Option Addr) (X : Option Addr) (cx : Nat) (x : List Nat) (Z : Option Addr) (cz : Nat) (z : List Nat) (w : World) {lx lz : Nat} (hlm : (digs (sall b l n)).length = lm) (hlx : x.length = lx) (hlz : z.length = lz)
    (hm : NM w bm 5000 (scnt b l y n) (-2048) 2048) (hA : NR w M m (digs (sall b l n))) (hx : NR w X cx x) (hz : NR w Z cz z) (hl : limB x z = true) (hlow : -2048 ≤ slow b l y n) (hhigh : shigh b l y n ≤ 2048) (hall : sall b l n ≤ 32 ^ 64) (hpos : 0 < sall b l n) :
    Calls Tryz.prog 85 #[.agg #[.map (some bm), .slice M lm m], .agg #[.slice X lx cx, .slice Z lz cz]] w fun e w' => e = .returned (.int .i64 (sbnd b l y n (val x) (val z))) ∧ Below w.heap.size w w' := by
  have mixed : Tryz.prog.follows Departure.mixedOrders = true := by kernel_rfl
  obtain ⟨f, hmf, hv⟩ := hm
  obtain ⟨v1, v2, l1, l2, hlt⟩ := limB_sm hl
  have HRE : Hid (∀ q W, Below w.heap.size w W → Calls Tryz.prog 78 #[.agg #[.map (some bm), .slice M lm m], .int .i64 q] W fun e w' => (∃ R r, e = .returned (.slice R (digs (srch b l y n q)).length r) ∧ NR w' R r (digs (srch b l y n q))) ∧ Below W.heap.size W w') := fun q W hW => reach_any b l y n bm lm m M q W ⟨f, hmf.below hW, fun s hs => ⟨(hv s hs).1.below hW, (hv s hs).2⟩⟩ hlow hhigh hall
  have HSR : Hid (∀ q, (digs (srch b l y n q)).length ≤ 12) := fun q => sm12 (Nat.le_trans (reach_all (gA b l y) (gB b l y) (cA b l) (cB l) n q) hall)
  have HWI : Hid (∀ q W R r, Below w.heap.size w W → NR W R r (digs (srch b l y n q)) → Calls Tryz.prog 132 #[.slice R (digs (srch b l y n q)).length r, .slice M lm m, .agg #[.slice X lx cx, .slice Z lz cz]] W fun e w' => e = .returned (.bool (slim b l y n (val x) (val z) q)) ∧ Below W.heap.size W w') := fun q W R r hW hR =>
    within_any (srch b l y n q) (sall b l n) R r M m X cx x Z cz z W rfl hlm hlx hlz hR (hA.below hW) (hx.below hW) (hz.below hW) hl (HSR.out q) (by rw [← hlm]; exact sm12 hall)
  have HLO : Hid (∀ lo, (∀ s, (Lit.int .i64 s).wf = true → f s ≠ none → lo ≤ s) → -2048 ≤ lo → slim b l y n (val x) (val z) lo = false) := fun lo hlo h1 => by
    rw [slim_inLim]
    simp only [inLim, decide_eq_false_iff_not]
    have : reachS (gA b l y) (gB b l y) (cA b l) (cB l) n lo = allS (cA b l) (cB l) n := reach_full fun s hs => by
      by_cases h2 : s < -2048
      · exact count_low _ _ _ _ _ (by unfold slow at hlow; omega)
      · by_cases h3 : 2048 < s
        · exact count_high _ _ _ _ _ (by unfold shigh at hhigh; omega)
        · have hwf : (Lit.int .i64 s).wf = true := WalkArith.wf_i64 (by omega)
          rcases (hv s hwf).1 with ⟨h4, h5⟩ | ⟨A, c, h4, h5⟩
          · exact h5
          · have := hlo s hwf (by rw [h4]; simp)
            omega
    rw [this]
    have h7 := Nat.mul_lt_mul_of_pos_left hlt hpos
    rw [Nat.mul_comm (sall b l n) (val x)] at h7
    unfold sall at h7
    omega
  have HHI : Hid (∀ hi, (∀ s, (Lit.int .i64 s).wf = true → f s ≠ none → s < hi) → slim b l y n (val x) (val z) hi = true) := fun hi hhi => by
    rw [slim_inLim]
    simp only [inLim, decide_eq_true_eq]
    have : reachS (gA b l y) (gB b l y) (cA b l) (cB l) n hi = 0 := reach_nil _ _ _ _ fun s hs => by
      by_cases h2 : s < -2048
      · exact count_low _ _ _ _ _ (by unfold slow at hlow; omega)
      · by_cases h3 : 2048 < s
        · exact count_high _ _ _ _ _ (by unfold shigh at hhigh; omega)
        · have hwf : (Lit.int .i64 s).wf = true := WalkArith.wf_i64 (by omega)
          rcases (hv s hwf).1 with ⟨h4, h5⟩ | ⟨A, c, h4, h5⟩
          · exact h5
          · have := hhi s hwf (by rw [h4]; simp)
            omega
    rw [this]; omega
  have HUN : Hid (∀ q, slim b l y n (val x) (val z) q = true → slim b l y n (val x) (val z) (q - 1) = false → q = sbnd b l y n (val x) (val z)) := fun q h1 h2 => bnd_unique _ _ _ _ hlt hpos h1 h2
  have HIN : Hid (∀ s, (Lit.int .i64 s).wf = true → f s ≠ none → -2048 ≤ s ∧ s ≤ 2048) := fun s hs hne => (hv s hs).2 hne
  have HMF := Lib.hid hmf
  obtain ⟨W0, hW0⟩ : ∃ W : World, W = (w.alloc (.cells #[.map (some bm), .slice M lm m] 122)).alloc (.cells #[.slice X lx cx, .slice Z lz cz] 27) := ⟨_, rfl⟩
  have b0 : Hid (Below w.heap.size w W0) := by unfold Hid; rw [hW0]; exact alloc2_bel _ _ _
  have x0 : Hid (Blk W0 w.heap.size 122 #[.map (some bm), .slice M lm m]) := by unfold Hid; rw [hW0]; exact blk_b0 w _ _ _
  have y0 : Hid (Blk W0 (w.heap.size + 1) 27 #[.slice X lx cx, .slice Z lz cz]) := by unfold Hid; rw [hW0]; exact blk_b1 w _ _ _
  have c0 : W0.cell? ⟨w.heap.size, 0, none⟩ = some (.map (some bm)) := x0.out.cell 0
  have HW0 := Lib.hid hW0
  obtain ⟨P, hP⟩ : ∃ P : Int → Bool, slim b l y n (val x) (val z) = P := ⟨_, rfl⟩
  rw [hP] at HWI HLO HHI HUN
  obtain ⟨r0, hr0⟩ : ∃ r, sbnd b l y n (val x) (val z) = r := ⟨_, rfl⟩
  rw [hr0] at HUN ⊢
  clear hmf hv v1 v2 l1 l2 hlt hlm hlx hlz hA hx hz hl hlow hhigh hall hpos hW0 hP hr0
  have HSX : Hid (∀ W, Below W0.heap.size W0 W → W.rangeAt w.heap.size 0 [.map (some bm), .slice M lm m] ∧ W.rangeAt (w.heap.size + 1) 0 [.slice X lx cx, .slice Z lz cz] ∧ W.cell? ⟨w.heap.size, 1, none⟩ = some (.slice M lm m)) := fun W hW => ⟨(x0.out.below' hW).range, (y0.out.below' hW).range, (x0.out.below' hW).cell 1⟩
  go_enter Tryz.func85, Tryz.ntmps85
  go_wp2_with (first
    | (rw [← HW0.out])
    | (at_range; refine wpList_range_mf _ rfl _ 120 rfl 3 25 intKey Tryz.underlying120 bm 5000 f rfl (HMF.out.below b0.out) ?_; intro w6 cnt6 hr6 hg6 hs6; have R6 := Lib.hid hr6; have D6 : Hid (Below W0.heap.size W0 w6) := (Below.refl _ _).grown hg6 (Nat.le_refl _) (fun j hj => by cases hj); clear hr6 hg6 hs6))
  try go_frame
  clear c0
  go_loopw [5, 6] (fun vl vh wr => ∃ (left : Int → Bool) (cnt : Nat) (lo hi : Int), vl = .int .i64 lo ∧ vh = .int .i64 hi ∧ -2048 ≤ lo ∧ lo ≤ 0 ∧ 0 ≤ hi ∧ hi ≤ 2048 ∧ Hid (∀ s, (Lit.int .i64 s).wf = true → f s ≠ none → left s = false → lo ≤ s ∧ s ≤ hi) ∧ Hid (MFR Tryz.prog 3 wr bm W0.heap.size 5000 f left cnt) ∧ Below W0.heap.size W0 wr) (fun _ _ w' => w'.rangeLeft bm W0.heap.size)
  case atStart => exact ⟨_, cnt6, 0, 0, rfl, rfl, by omega, by omega, by omega, by omega, (fun s _ hne hs => absurd (Option.isSome_iff_ne_none.2 hne) (by rw [hs]; simp)), R6.out, D6.out⟩
  case round =>
    obtain ⟨left, cnt, lo, hi, rfl, rfl, g1, g2, g3, g4, HL, HR, hbel⟩ := hrel
    go_wp2_with (first
      | (at_next; refine wpList_next_mf _ rfl _ rfl 3 intKey Tryz.underlying3 bm W0.heap.size 5000 _ _ _ rfl HR.out ?_ ?_))
    · intro hl0
      have L1 := Lib.hid (HLO.out lo (fun s hs hne => (HL.out s hs hne (hl0 s hs)).1) g1)
      have H1 := Lib.hid (HHI.out (hi + 1) (fun s hs hne => by have := (HL.out s hs hne (hl0 s hs)).2; omega))
      obtain ⟨hi', hhi'⟩ : ∃ q, hi + 1 = q := ⟨_, rfl⟩
      rw [hhi'] at H1
      have e1 : IntKind.i64.wrap (hi + 1) = hi' := by rw [IntKind.wrap_i64]; omega
      have g3' : 1 ≤ hi' := by omega
      have g4' : hi' ≤ 2049 := by omega
      clear hl0 HL HLO HHI
      go_wp2_with fail
      clear hhi' e1 g3 g4 HR
      go_loopw [5, 6] (fun vl vh wr => ∃ lo hi : Int, vl = .int .i64 lo ∧ vh = .int .i64 hi ∧ -2048 ≤ lo ∧ lo < hi ∧ hi ≤ 2049 ∧ Hid (P lo = false) ∧ Hid (P hi = true) ∧ Below W0.heap.size W0 wr) (fun vl vh _ => (intOf vh - intOf vl).toNat)
      case atStart => exact ⟨lo, hi', rfl, rfl, by omega, by omega, by omega, L1.out, H1.out, hbel⟩
      case round =>
        clear L1 H1 g1 g2 g3' g4'
        obtain ⟨lo, hi, rfl, rfl, g1, g2, g3, HL, HH, hbel2⟩ := hrel
        by_cases hgo : 1 < hi - lo
        · obtain ⟨q, hq⟩ : ∃ q, (lo + hi) / 2 = q := ⟨_, rfl⟩
          have q1 : lo < q := by omega
          have q2 : q < hi := by omega
          go_wp2_with fail
          refine wp_region_noPanic ?_
          obtain ⟨v0, hv0⟩ : ∃ W, W = wr.drew := ⟨_, rfl⟩
          have k0 : Below W0.heap.size W0 v0 := by rw [hv0]; exact hbel2.drew
          refine wp_region_held_drew (S := fun W => W.rangeAt w.heap.size 0 [.map (some bm), .slice M lm m] ∧ W.rangeAt (w.heap.size + 1) 0 [.slice X lx cx, .slice Z lz cz] ∧ W.cell? ⟨w.heap.size, 1, none⟩ = some (.slice M lm m)) (by kernel_rfl) (by rw [← hv0]; exact HSX.out _ k0) (fun hS0 => ?_)
          rw [← hv0] at hS0 ⊢
          clear hv0
          refine hd_load 0 w.heap.size 0 [.map (some bm), .slice M lm m] 122 (.tmp 2) rfl rfl rfl (by kernel_rfl) (by kernel_rfl) (by kernel_rfl) (fun _ _ _ h => h) rfl (fun w h => h.1) Tryz.underlying122 rfl rfl hS0 ?_
          refine hd_take 1 (.int .i64 q) rfl rfl (by kernel_rfl) (by kernel_rfl) (by kernel_rfl) (fun _ _ _ h => h) (fun w hw => by go_simp) hS0 ?_
          refine hd_take 3 (.pointer (some ⟨w.heap.size, 1, none⟩)) rfl rfl (by kernel_rfl) (by kernel_rfl) (by kernel_rfl) (fun _ _ _ h => h) (fun w hw => by go_simp) hS0 ?_
          refine hd_load 5 (w.heap.size + 1) 0 [.slice X lx cx, .slice Z lz cz] 27 (.tmp 3) rfl rfl rfl (by kernel_rfl) (by kernel_rfl) (by kernel_rfl) (fun _ _ _ h => h) rfl (fun w h => h.2.1) Tryz.underlying27 rfl rfl hS0 ?_
          simp only [List.getElem_toArray, List.getElem_cons_succ, List.getElem_cons_zero, Act.put, List.setIfInBounds_toArray, List.set_cons_zero, List.set_cons_succ]
          refine hd_take 4 (.slice M lm m) rfl rfl (by kernel_rfl) (by kernel_rfl) (by kernel_rfl) (fun _ _ _ h => h) (fun w hw => by have hx := hw.2.2; simp [go_sem, hx]) hS0 ?_
          simp only [List.getElem_toArray, List.getElem_cons_succ, List.getElem_cons_zero, Act.put, List.setIfInBounds_toArray, List.set_cons_zero, List.set_cons_succ]
          refine hd_calls 2 78 #[.agg #[.map (some bm), .slice M lm m], .int .i64 q] rfl rfl (by kernel_rfl) (by go_simp) ((HRE.out q _ (bel_on b0.out k0)).mono ?_)
          rintro e v1 ⟨⟨R, r, rfl, hR⟩, hb1⟩
          have k1 := bel_on k0 hb1
          have hS1 := HSX.out _ k1
          refine ⟨_, rfl, hS1, ?_⟩
          simp only [List.getElem_toArray, List.getElem_cons_succ, List.getElem_cons_zero, Act.put, List.setIfInBounds_toArray, List.set_cons_zero, List.set_cons_succ]
          refine hd_calls 6 132 #[.slice R (digs (srch b l y n q)).length r, .slice M lm m, .agg #[.slice X lx cx, .slice Z lz cz]] rfl rfl (by kernel_rfl) (by go_simp) ((HWI.out q _ _ _ (bel_on b0.out k1) hR).mono ?_)
          rintro e v2 ⟨rfl, hb2⟩
          have k2 := bel_on k1 hb2
          have hS2 := HSX.out _ k2
          refine ⟨_, rfl, hS2, ?_⟩
          simp only [List.getElem_toArray, List.getElem_cons_succ, List.getElem_cons_zero, Act.put, List.setIfInBounds_toArray, List.set_cons_zero, List.set_cons_succ]
          refine wpAnyH_done (by kernel_rfl) (NoPanic.normal ?_) _
          have K2 := Lib.hid k2
          clear k0 k1 k2 hS0 hS1 hS2 hb1 hb2 hR
          cases hp : P q
          · have HP := Lib.hid hp
            clear hq hp
            go_wp2_with fail
            go_roundw
            case rel => exact ⟨q, hi, rfl, rfl, by omega, by omega, by omega, HP.out, HH.out, K2.out⟩
            case measure => simp [intOf]; omega
          · have HP := Lib.hid hp
            clear hq hp
            go_wp2_with fail
            go_roundw
            case rel => exact ⟨lo, q, rfl, rfl, by omega, by omega, by omega, HL.out, HP.out, K2.out⟩
            case measure => simp [intOf]; omega
        · have hx : P (hi - 1) = false := by rw [show hi - 1 = lo from by omega]; exact HL.out
          have HR0 := Lib.hid (HUN.out hi HH.out hx)
          have hgo2 : ¬ (1 < hi - lo) := hgo
          clear hx
          go_wp2_with fail
          go_ret
          exact ⟨by rw [HR0.out]; rfl, bel_on b0.out hbel2⟩
    · intro sx vx w7 cnt7 hws hls hfs hr7 hlt7 hg7 hs7 hen
      obtain ⟨k1, k2⟩ := HIN.out sx hws (by rw [hfs]; simp)
      have R7 := Lib.hid hr7
      have HLT := Lib.hid hlt7
      have D7 : Hid (Below W0.heap.size W0 w7) := hbel.grown hg7 hbel.size (fun j hj => by cases hj; exact Nat.le_refl _)
      have HL2 : Hid (∀ s, (Lit.int .i64 s).wf = true → f s ≠ none → (left s && !(s == sx)) = false → min lo sx ≤ s ∧ s ≤ max hi sx) := fun s hs hne hf => by
        cases hl1 : left s
        · have := HL.out s hs hne hl1; omega
        · rw [hl1] at hf
          have : s = sx := by simpa using hf
          omega
      clear hws hls hfs hr7 hlt7 hg7 hs7
      go_wp2_with fail
      go_roundw
      case rel => exact ⟨_, cnt7, min lo sx, max hi sx, rfl, rfl, by omega, by omega, by omega, by omega, HL2.out, R7.out, D7.out⟩
      case measure => rw [R7.out.left_eq, HR.out.left_eq]; exact HLT.out
end Go.Proofs.YtenpkmgbaajeeaaGreat

/- The chance of a score and the bound of a limit, of the program. -/
namespace Go.Proofs.YtenpkmgbaajeeaaGreat
open Go.RowKit Go.Maps
set_option linter.unusedVariables false
set_option linter.unusedSimpArgs false

def chanceS (u b : Int) (l : List Int) (y : List UInt8) (z : Int) : (List Nat × List Nat) × Int := if ckSC u b l y = 0 then (lowS (srch b l y l.length z) (sall b l l.length), 0) else (([], []), ckSC u b l y)
def boundS (u b : Int) (l : List Int) (y : List UInt8) (p q : List Nat) : Int × Int := if ckSC u b l y = 0 then (if limB p q = true then (sbnd b l y l.length (val p) (val q), 0) else (0, 2)) else (0, ckSC u b l y)
theorem chances_no (u b : Int) (A : Option Addr) (c : Nat) (l : List Int) (k : List UInt8) (Y : Option Addr) (d : Nat) (y : List UInt8) (w : World) {n ny : Nat} (hn : l.length = n) (hyl : y.length = ny) (h : IR w A c l) (hy : BR w Y d y) (hk : k.length = 16) (hne : ckSC u b l y ≠ 0) :
    Calls Tryz.prog 77 #[.agg (scC u b A n c k).toArray, .slice Y ny d] w fun e w' => e = .returned (.tuple #[.agg #[.map none, .slice none 0 0], .int .i64 (ckSC u b l y)]) ∧ Below w.heap.size w w' := by
  cases hv : scoresB u b l
  · rw [ckSC_bad hv]; exact chances_bad u b A c l k Y d y w hn hyl h hy hk hv
  · cases hc : copyB y l.length
    · rw [ckSC_copy hv hc]; exact chances_copy u b A c l k Y d y w hn hyl h hy hk hv (by rw [← hn]; exact hc)
    · exact absurd (ckSC_ok hv hc) hne
theorem chances_yes (u b : Int) (A : Option Addr) (c : Nat) (l : List Int) (k : List UInt8) (Y : Option Addr) (d : Nat) (y : List UInt8) (w : World) {n ny : Nat} (hn : l.length = n) (hyl : y.length = ny) (h : IR w A c l) (hy : BR w Y d y) (hk : k.length = 16) (he : ckSC u b l y = 0) :
    Calls Tryz.prog 77 #[.agg (scC u b A n c k).toArray, .slice Y ny d] w fun e w' => (∃ bm M m, e = .returned (.tuple #[.agg #[.map (some bm), .slice M (digs (sall b l l.length)).length m], .int .i64 0]) ∧ NM w' bm 5000 (scnt b l y l.length) (-2048) 2048 ∧ NR w' M m (digs (sall b l l.length))) ∧ Below w.heap.size w w' := by
  obtain ⟨h1, h2⟩ := ckSC_zero he
  refine (chances_good u b A c l k Y d y w hn hyl h hy hk h1 (by rw [← hn]; exact h2)).mono fun e w' hq => ?_
  obtain ⟨⟨v, e1, bm, M, m, e2, e3, e4⟩, e5⟩ := hq
  exact ⟨⟨bm, M, m, by rw [e1, e2], e3, e4⟩, e5⟩
set_option maxHeartbeats 2000000 in
set_option maxRecDepth 100000 in
theorem Chance_no (u b : Int) (A : Option Addr) (c : Nat) (l : List Int) (k : List UInt8) (Y : Option Addr) (d : Nat) (y : List UInt8) (z : Int) (w : World) {n ny : Nat} (hn : l.length = n) (hyl : y.length = ny) (h : IR w A c l) (hy : BR w Y d y) (hk : k.length = 16) (hne : ckSC u b l y ≠ 0) :
    Calls Tryz.prog 28 #[.agg (scC u b A n c k).toArray, .slice Y ny d, .int .i64 z] w fun e w' => Frac2 w w' e (chanceS u b l y z) := by
  have HS : Hid (chanceS u b l y z = (([], []), ckSC u b l y)) := by unfold Hid chanceS; rw [if_neg hne]
  have HIN := Lib.hid (scC_info u b A n c k hk)
  have HCH : Hid (∀ W, Below w.heap.size w W → Calls Tryz.prog 77 #[.agg (scC u b A n c k).toArray, .slice Y ny d] W fun e w' => e = .returned (.tuple #[.agg #[.map none, .slice none 0 0], .int .i64 (ckSC u b l y)]) ∧ Below W.heap.size W w') := fun W hW => chances_no u b A c l k Y d y W hn hyl (h.below hW) (hy.below hW) hk hne
  obtain ⟨er, her⟩ : ∃ er, ckSC u b l y = er := ⟨_, rfl⟩
  have t1 : (er == 0) = false := by rw [beq_eq_false_iff_ne, ← her]; exact hne
  have t2 : ¬ er = 0 := by rw [← her]; exact hne
  obtain ⟨W0, hW0⟩ : ∃ W : World, W = (w.alloc (.cells (scC u b A n c k).toArray 46)).alloc (.cells #[.slice none 0 0, .slice none 0 0] 27) := ⟨_, rfl⟩
  have b0 : Hid (Below w.heap.size w W0) := by unfold Hid; rw [hW0]; exact alloc2_bel _ _ _
  have x0 : Hid (Blk W0 w.heap.size 46 (scC u b A n c k).toArray) := by unfold Hid; rw [hW0]; exact blk_b0 w _ _ _
  have y0 : Hid (Blk W0 (w.heap.size + 1) 27 #[.slice none 0 0, .slice none 0 0]) := by unfold Hid; rw [hW0]; exact blk_b1 w _ _ _
  have hz0 : Hid (W0.heap.size = w.heap.size + 2) := by unfold Hid; rw [hW0]; simp
  have HW0 := Lib.hid hW0
  rw [her] at HCH HS
  clear hn hyl h hy hk hW0 hne her
  go_enter Tryz.func28, Tryz.ntmps28
  go_wp2_with (first
    | (rw [← HW0.out])
    | (refine wpList_load_row rfl 46 (.tmp 3) rfl w.heap.size rfl 46 (scC u b A n c k).toArray (0, 0) _ x0.out Tryz.underlying46 rfl HIN.out ?_)
    | (go_at_call 77; (with_reducible refine (HCH.out _ b0.out).mono ?_); rintro e w1 ⟨rfl, hb1⟩; have D2 : Hid (Below W0.heap.size W0 (w1.alloc (.cells #[.map none, .slice none 0 0] 122))) := bel_on hb1 (alloc_bel _ _); have Y2 := Lib.hid (y0.out.below' D2.out); have k0 := Y2.out.cell 0; have k1 := Y2.out.cell 1; have f0 := Y2.out.frozen 0; have f1 := Y2.out.frozen 1; clear hb1))
  have RB := (Y2.out.set_ 0 (.slice none 0 0)).set_ 1 (.slice none 0 0)
  have z0 := RB.cell 0
  have z1 := RB.cell 1
  have DF := ((bel_on b0.out D2.out).setCell (p := ⟨w.heap.size + 1, 0, none⟩) (by simp) (.slice none 0 0)).setCell (p := ⟨w.heap.size + 1, 1, none⟩) (by simp) (.slice none 0 0)
  refine bodyPost_ret (v := .tuple #[.agg #[.slice none 0 0, .slice none 0 0], .int .i64 er]) (by simp [results, Tryz.f28, go_sem, z0, z1, k0, k1, f0, f1]) rfl (Frac2.mk' HS.out (FracNew.zero DF))
set_option maxHeartbeats 4000000 in
set_option maxRecDepth 100000 in
theorem Chance_yes (u b : Int) (A : Option Addr) (c : Nat) (l : List Int) (k : List UInt8) (Y : Option Addr) (d : Nat) (y : List UInt8) (z : Int) (w : World) {n ny : Nat} (hn : l.length = n) (hyl : y.length = ny) (h : IR w A c l) (hy : BR w Y d y) (hk : k.length = 16) (he : ckSC u b l y = 0) :
    Calls Tryz.prog 28 #[.agg (scC u b A n c k).toArray, .slice Y ny d, .int .i64 z] w fun e w' => Frac2 w w' e (chanceS u b l y z) := by
  have mixed : Tryz.prog.follows Departure.mixedOrders = true := by kernel_rfl
  have HS : Hid (chanceS u b l y z = (lowS (srch b l y l.length z) (sall b l l.length), 0)) := by unfold Hid chanceS; rw [if_pos he]
  have HIN := Lib.hid (scC_info u b A n c k hk)
  obtain ⟨hv, hc⟩ := ckSC_zero he
  obtain ⟨r1, r2, r3, r4⟩ := score_range (y := y) hv
  obtain ⟨lm, hlm⟩ : ∃ lm, (digs (sall b l l.length)).length = lm := ⟨_, rfl⟩
  have HCH : Hid (∀ W, Below w.heap.size w W → Calls Tryz.prog 77 #[.agg (scC u b A n c k).toArray, .slice Y ny d] W fun e w' => (∃ bm M m, e = .returned (.tuple #[.agg #[.map (some bm), .slice M lm m], .int .i64 0]) ∧ NM w' bm 5000 (scnt b l y l.length) (-2048) 2048 ∧ NR w' M m (digs (sall b l l.length))) ∧ Below W.heap.size W w') := fun W hW => by rw [← hlm]; exact chances_yes u b A c l k Y d y W hn hyl (h.below hW) (hy.below hW) hk he
  obtain ⟨W0, hW0⟩ : ∃ W : World, W = (w.alloc (.cells (scC u b A n c k).toArray 46)).alloc (.cells #[.slice none 0 0, .slice none 0 0] 27) := ⟨_, rfl⟩
  have b0 : Hid (Below w.heap.size w W0) := by unfold Hid; rw [hW0]; exact alloc2_bel _ _ _
  have x0 : Hid (Blk W0 w.heap.size 46 (scC u b A n c k).toArray) := by unfold Hid; rw [hW0]; exact blk_b0 w _ _ _
  have y0 : Hid (Blk W0 (w.heap.size + 1) 27 #[.slice none 0 0, .slice none 0 0]) := by unfold Hid; rw [hW0]; exact blk_b1 w _ _ _
  have hz0 : Hid (W0.heap.size = w.heap.size + 2) := by unfold Hid; rw [hW0]; simp
  have HW0 := Lib.hid hW0
  obtain ⟨lr, hlr⟩ : ∃ lr, (digs (srch b l y l.length z)).length = lr := ⟨_, rfl⟩
  have HRE0 : Hid (∀ bm M m W, NM W bm 5000 (scnt b l y l.length) (-2048) 2048 → Calls Tryz.prog 78 #[.agg #[.map (some bm), .slice M lm m], .int .i64 z] W fun e w' => (∃ R r, e = .returned (.slice R lr r) ∧ NR w' R r (digs (srch b l y l.length z))) ∧ Below W.heap.size W w') := fun bm M m W hm => by rw [← hlr]; exact reach_any b l y l.length bm lm m M z W hm r1 r2 r3
  have hsm1 : Sm (srch b l y l.length z) := sm_allS (Nat.le_trans (reach_all (gA b l y) (gB b l y) (cA b l) (cB l) l.length z) r3)
  have HRT0 : Hid (∀ M m R r W, NR W R r (digs (srch b l y l.length z)) → NR W M m (digs (sall b l l.length)) → Calls Tryz.prog 52 #[.slice R lr r, .slice M lm m] W fun e w' => ∃ v, e = .returned (.tuple #[v, .int .i64 0]) ∧ FracNew W w' v (lowS (srch b l y l.length z) (sall b l l.length))) := fun M m R r W g1 g2 => ratioD_any hsm1 (sm_allS r3) (by omega) hlr hlm g1 g2
  clear hn hyl h hy hk hW0 he hv hc r1 r2 r3 r4 hlm hlr hsm1
  go_enter Tryz.func28, Tryz.ntmps28
  go_wp2_with (first
    | (rw [← HW0.out])
    | (refine wpList_load_row rfl 46 (.tmp 3) rfl w.heap.size rfl 46 (scC u b A n c k).toArray (0, 0) _ x0.out Tryz.underlying46 rfl HIN.out ?_)
    | (go_at_call 77; (with_reducible refine (HCH.out _ b0.out).mono ?_); rintro e w1 ⟨⟨bm, M, m, rfl, hm1, hn1⟩, hb1⟩; obtain ⟨w2, hw2⟩ : ∃ W, W = w1.alloc (.cells #[.map (some bm), .slice M lm m] 122) := ⟨_, rfl⟩; have E2 : Hid (Below w1.heap.size w1 w2) := (by unfold Hid; rw [hw2]; exact alloc_bel _ _); have D2 : Hid (Below W0.heap.size W0 w2) := bel_on hb1 E2.out; have Y2 := Lib.hid (y0.out.below' D2.out); have S2 : Hid (Blk w2 w1.heap.size 122 #[.map (some bm), .slice M lm m]) := (by unfold Hid; rw [hw2]; exact Blk.new _ _ _); have M2 := Lib.hid (hm1.below E2.out); have N2 := Lib.hid (hn1.below E2.out); have HW2 := Lib.hid hw2; have HZ1 : Hid (W0.heap.size ≤ w1.heap.size) := hb1.size; clear hb1 hw2 hm1 hn1)
    | (rw [← HW2.out]))
  have HRE : Hid (∀ W, Below W0.heap.size W0 W → Below w2.heap.size w2 W → Calls Tryz.prog 78 #[.agg #[.map (some bm), .slice M lm m], .int .i64 z] W fun e w' => (∃ R r, e = .returned (.slice R lr r) ∧ NR w' R r (digs (srch b l y l.length z))) ∧ Below W.heap.size W w') := fun W _ hW => HRE0.out bm M m W (M2.out.below hW)
  have HRT : Hid (∀ R r W, NR W R r (digs (srch b l y l.length z)) → NR W M m (digs (sall b l l.length)) → Calls Tryz.prog 52 #[.slice R lr r, .slice M lm m] W fun e w' => ∃ v, e = .returned (.tuple #[v, .int .i64 0]) ∧ FracNew W w' v (lowS (srch b l y l.length z) (sall b l l.length))) := HRT0.out M m
  have HLT : Hid (w.heap.size + 1 < w1.heap.size ∧ w1.heap.size < w2.heap.size) := by
    have h1 := hz0.out
    have h2 := S2.out.lt
    have h3 := D2.out.size
    have h4 := HW2.out
    have h5 : w2.heap.size = w1.heap.size + 1 := by rw [h4]; simp
    exact ⟨by have := HZ1.out; omega, by omega⟩
  have HSX : Hid (∀ W, Below w2.heap.size w2 W → W.rangeAt w1.heap.size 0 [.map (some bm), .slice M lm m] ∧ W.cell? ⟨w1.heap.size, 1, none⟩ = some (.slice M lm m)) := fun W hW => ⟨(S2.out.below' hW).range, (S2.out.below' hW).cell 1⟩
  have HSY : Hid (∀ W, Below w2.heap.size w2 W → ∀ a b', ((W.setCell ⟨w.heap.size + 1, 0, none⟩ a).setCell ⟨w.heap.size + 1, 1, none⟩ b').rangeAt w1.heap.size 0 [.map (some bm), .slice M lm m] ∧ ((W.setCell ⟨w.heap.size + 1, 0, none⟩ a).setCell ⟨w.heap.size + 1, 1, none⟩ b').cell? ⟨w1.heap.size, 1, none⟩ = some (.slice M lm m)) := fun W hW a b' => by
    have h1 := ((S2.out.below' hW).far (p := ⟨w.heap.size + 1, 0, none⟩) (by have := HLT.out; simp; omega) a).far (p := ⟨w.heap.size + 1, 1, none⟩) (by have := HLT.out; simp; omega) b'
    exact ⟨h1.range, h1.cell 1⟩
  refine wp_region_noPanic ?_
  obtain ⟨v0, hv0⟩ : ∃ W, W = w2.drew := ⟨_, rfl⟩
  have k0 : Below w2.heap.size w2 v0 := by rw [hv0]; exact (Below.refl _ _).drew
  refine wp_region_held_drew (S := fun W => W.rangeAt w1.heap.size 0 [.map (some bm), .slice M lm m] ∧ W.cell? ⟨w1.heap.size, 1, none⟩ = some (.slice M lm m)) (by kernel_rfl) (by rw [← hv0]; exact HSX.out _ k0) (fun hS0 => ?_)
  rw [← hv0] at hS0 ⊢
  clear hv0
  refine hd_load 0 w1.heap.size 0 [.map (some bm), .slice M lm m] 122 (.tmp 8) rfl rfl rfl (by kernel_rfl) (by kernel_rfl) (by kernel_rfl) (fun _ _ _ h => h) rfl (fun w h => h.1) Tryz.underlying122 rfl rfl hS0 ?_
  refine hd_take 1 (.int .i64 z) rfl rfl (by kernel_rfl) (by kernel_rfl) (by kernel_rfl) (fun _ _ _ h => h) (fun w hw => by go_simp) hS0 ?_
  refine hd_take 3 (.pointer (some ⟨w1.heap.size, 1, none⟩)) rfl rfl (by kernel_rfl) (by kernel_rfl) (by kernel_rfl) (fun _ _ _ h => h) (fun w hw => by go_simp) hS0 ?_
  simp only [List.getElem_toArray, List.getElem_cons_succ, List.getElem_cons_zero, Act.put, List.setIfInBounds_toArray, List.set_cons_zero, List.set_cons_succ]
  refine hd_take 4 (.slice M lm m) rfl rfl (by kernel_rfl) (by kernel_rfl) (by kernel_rfl) (fun _ _ _ h => h) (fun w hw => by have hx := hw.2; simp [go_sem, hx]) hS0 ?_
  simp only [List.getElem_toArray, List.getElem_cons_succ, List.getElem_cons_zero, Act.put, List.setIfInBounds_toArray, List.set_cons_zero, List.set_cons_succ]
  refine hd_calls 2 78 #[.agg #[.map (some bm), .slice M lm m], .int .i64 z] rfl rfl (by kernel_rfl) (by go_simp) ((HRE.out _ (bel_on D2.out k0) k0).mono ?_)
  rintro e v1 ⟨⟨R, r, rfl, hR⟩, hb1⟩
  have k1 := bel_on k0 hb1
  have hS1 := HSX.out _ k1
  refine ⟨_, rfl, hS1, ?_⟩
  simp only [List.getElem_toArray, List.getElem_cons_succ, List.getElem_cons_zero, Act.put, List.setIfInBounds_toArray, List.set_cons_zero, List.set_cons_succ]
  refine hd_calls 5 52 #[.slice R lr r, .slice M lm m] rfl rfl (by kernel_rfl) (by go_simp) ((HRT.out R r v1 hR (N2.out.below k1)).mono ?_)
  rintro e v2 ⟨v, rfl, Xa, xc, Ya, yd, rfl, hXX, hYY, hap, hb2⟩
  have k2 := bel_on k1 hb2
  have hS2 := HSX.out _ k2
  refine ⟨_, rfl, hS2, ?_⟩
  simp only [List.getElem_toArray, List.getElem_cons_succ, List.getElem_cons_zero, Act.put, List.setIfInBounds_toArray, List.set_cons_zero, List.set_cons_succ]
  obtain ⟨lx, hlx⟩ : ∃ q, (lowS (srch b l y l.length z) (sall b l l.length)).1.length = q := ⟨_, rfl⟩
  obtain ⟨ly, hly⟩ : ∃ q, (lowS (srch b l y l.length z) (sall b l l.length)).2.length = q := ⟨_, rfl⟩
  rw [hlx, hly]
  refine hd_take 6 (.agg #[.slice Xa lx xc, .slice Ya ly yd]) rfl rfl (by kernel_rfl) (by kernel_rfl) (by kernel_rfl) (fun _ _ _ h => h) (fun w hw => by go_simp) hS2 ?_
  refine hd_take 7 (.int .i64 0) rfl rfl (by kernel_rfl) (by kernel_rfl) (by kernel_rfl) (fun _ _ _ h => h) (fun w hw => by go_simp) hS2 ?_
  simp only [List.getElem_toArray, List.getElem_cons_succ, List.getElem_cons_zero, Act.put, List.setIfInBounds_toArray, List.set_cons_zero, List.set_cons_succ]
  have Y3 := Y2.out.below' k2
  have q0 := Y3.cell 0
  have q1 := Y3.cell 1
  have f0 := Y3.frozen 0
  have f1 := Y3.frozen 1
  have hS3 := HSY.out _ k2 (.slice Xa lx xc) (.slice Ya ly yd)
  refine hd_sole 8 (by kernel_rfl) (op_skip ((v2.setCell ⟨w.heap.size + 1, 0, none⟩ (.slice Xa lx xc)).setCell ⟨w.heap.size + 1, 1, none⟩ (.slice Ya ly yd)) rfl rfl (by simp [go_sem, q0, q1, f0, f1]) ⟨hS3, ?_⟩)
  simp only [List.getElem_toArray, List.getElem_cons_succ, List.getElem_cons_zero, Act.put, List.setIfInBounds_toArray, List.set_cons_zero, List.set_cons_succ]
  refine hd_take 9 (.int .i64 0) rfl rfl (by kernel_rfl) (by kernel_rfl) (by kernel_rfl) (fun _ _ _ h => h) (fun w hw => by go_simp) hS3 ?_
  refine wpAnyH_done (by kernel_rfl) (NoPanic.normal ?_) _
  simp only [List.getElem_toArray, List.getElem_cons_succ, List.getElem_cons_zero, Act.put, List.setIfInBounds_toArray, List.set_cons_zero, List.set_cons_succ]
  have HFX := Lib.hid (hXX.mono (show w.heap.size + 2 ≤ v1.heap.size by have h1 := hz0.out; have h2 := D2.out.size; have h3 := k1.size; omega))
  have HFY := Lib.hid (hYY.mono (show w.heap.size + 2 ≤ v1.heap.size by have h1 := hz0.out; have h2 := D2.out.size; have h3 := k1.size; omega))
  have HAP := Lib.hid hap
  have HBF := Lib.hid (bel_on (bel_on b0.out D2.out) k2)
  have RB := (Y3.set_ 0 (.slice Xa lx xc)).set_ 1 (.slice Ya ly yd)
  have z0 := RB.cell 0
  have z1 := RB.cell 1
  clear k0 k1 k2 hS0 hS1 hS2 hS3 hb1 hb2 hR hXX hYY hap Y3 RB
  go_wp2_with fail
  refine bodyPost_ret (v := .tuple #[.agg #[.slice Xa lx xc, .slice Ya ly yd], .int .i64 0]) (by simp [results, Tryz.f28, go_sem, z0, z1, q0, q1, f0, f1]) rfl (Frac2.mk' HS.out ?_)
  rw [← hlx, ← hly]
  exact fracNew_store HFX.out HFY.out HAP.out (by omega) HBF.out _ _
theorem Chance_any (u b : Int) (A : Option Addr) (c : Nat) (l : List Int) (k : List UInt8) (Y : Option Addr) (d : Nat) (y : List UInt8) (z : Int) (w : World) {n ny : Nat} (hn : l.length = n) (hyl : y.length = ny) (h : IR w A c l) (hy : BR w Y d y) (hk : k.length = 16) :
    Calls Tryz.prog 28 #[.agg (scC u b A n c k).toArray, .slice Y ny d, .int .i64 z] w fun e w' => Frac2 w w' e (chanceS u b l y z) := by
  by_cases he : ckSC u b l y = 0
  · exact Chance_yes u b A c l k Y d y z w hn hyl h hy hk he
  · exact Chance_no u b A c l k Y d y z w hn hyl h hy hk he
set_option maxHeartbeats 2000000 in
set_option maxRecDepth 100000 in
theorem Bound_no (u b : Int) (A : Option Addr) (c : Nat) (l : List Int) (k : List UInt8) (Y : Option Addr) (d : Nat) (y : List UInt8) (X : Option Addr) (cx : Nat) (x : List Nat) (Z : Option Addr) (cz : Nat) (z : List Nat) (w : World) {n ny lx lz : Nat} (hn : l.length = n) (hyl : y.length = ny) (hlx : x.length = lx) (hlz : z.length = lz) (h : IR w A c l) (hy : BR w Y d y) (hk : k.length = 16) (hx : NR w X cx x) (hz : NR w Z cz z) (hne : ckSC u b l y ≠ 0) :
    Calls Tryz.prog 31 #[.agg (scC u b A n c k).toArray, .slice Y ny d, .agg #[.slice X lx cx, .slice Z lz cz]] w fun e w' => e = .returned (.tuple #[.int .i64 (boundS u b l y x z).1, .int .i64 (boundS u b l y x z).2]) ∧ Below w.heap.size w w' := by
  have HS : Hid (boundS u b l y x z = (0, ckSC u b l y)) := by unfold Hid boundS; rw [if_neg hne]
  have HIN := Lib.hid (scC_info u b A n c k hk)
  have HCH : Hid (∀ W, Below w.heap.size w W → Calls Tryz.prog 77 #[.agg (scC u b A n c k).toArray, .slice Y ny d] W fun e w' => e = .returned (.tuple #[.agg #[.map none, .slice none 0 0], .int .i64 (ckSC u b l y)]) ∧ Below W.heap.size W w') := fun W hW => chances_no u b A c l k Y d y W hn hyl (h.below hW) (hy.below hW) hk hne
  obtain ⟨er, her⟩ : ∃ er, ckSC u b l y = er := ⟨_, rfl⟩
  have t1 : (er == 0) = false := by rw [beq_eq_false_iff_ne, ← her]; exact hne
  have t2 : ¬ er = 0 := by rw [← her]; exact hne
  obtain ⟨W0, hW0⟩ : ∃ W : World, W = (w.alloc (.cells (scC u b A n c k).toArray 46)).alloc (.cells #[.slice X lx cx, .slice Z lz cz] 27) := ⟨_, rfl⟩
  have b0 : Hid (Below w.heap.size w W0) := by unfold Hid; rw [hW0]; exact alloc2_bel _ _ _
  have x0 : Hid (Blk W0 w.heap.size 46 (scC u b A n c k).toArray) := by unfold Hid; rw [hW0]; exact blk_b0 w _ _ _
  have y0 : Hid (Blk W0 (w.heap.size + 1) 27 #[.slice X lx cx, .slice Z lz cz]) := by unfold Hid; rw [hW0]; exact blk_b1 w _ _ _
  have hz0 : Hid (W0.heap.size = w.heap.size + 2) := by unfold Hid; rw [hW0]; simp
  have HW0 := Lib.hid hW0
  rw [her] at HCH HS
  clear hn hyl h hy hk hW0 hne her hx hz hlx hlz
  go_enter Tryz.func31, Tryz.ntmps31
  go_wp2_with (first
    | (rw [← HW0.out])
    | (refine wpList_load_row rfl 46 (.tmp 3) rfl w.heap.size rfl 46 (scC u b A n c k).toArray (0, 0) _ x0.out Tryz.underlying46 rfl HIN.out ?_)
    | (go_at_call 77; (with_reducible refine (HCH.out _ b0.out).mono ?_); rintro e w1 ⟨rfl, hb1⟩; have D2 : Hid (Below W0.heap.size W0 (w1.alloc (.cells #[.map none, .slice none 0 0] 122))) := bel_on hb1 (alloc_bel _ _); have Y2 := Lib.hid (y0.out.below' D2.out); clear hb1))
  go_ret2
  exact ⟨by rw [HS.out]; rfl, bel_on b0.out D2.out⟩
set_option maxHeartbeats 2000000 in
set_option maxRecDepth 100000 in
theorem Bound_lim (u b : Int) (A : Option Addr) (c : Nat) (l : List Int) (k : List UInt8) (Y : Option Addr) (d : Nat) (y : List UInt8) (X : Option Addr) (cx : Nat) (x : List Nat) (Z : Option Addr) (cz : Nat) (z : List Nat) (w : World) {n ny lx lz : Nat} (hn : l.length = n) (hyl : y.length = ny) (hlx : x.length = lx) (hlz : z.length = lz) (h : IR w A c l) (hy : BR w Y d y) (hk : k.length = 16) (hx : NR w X cx x) (hz : NR w Z cz z) (he : ckSC u b l y = 0) (hl : limB x z = false) :
    Calls Tryz.prog 31 #[.agg (scC u b A n c k).toArray, .slice Y ny d, .agg #[.slice X lx cx, .slice Z lz cz]] w fun e w' => e = .returned (.tuple #[.int .i64 (boundS u b l y x z).1, .int .i64 (boundS u b l y x z).2]) ∧ Below w.heap.size w w' := by
  have HS : Hid (boundS u b l y x z = (0, 2)) := by unfold Hid boundS; rw [if_pos he, hl]; rfl
  have HIN := Lib.hid (scC_info u b A n c k hk)
  obtain ⟨hv, hc⟩ := ckSC_zero he
  obtain ⟨r1, r2, r3, r4⟩ := score_range (y := y) hv
  obtain ⟨lm, hlm⟩ : ∃ lm, (digs (sall b l l.length)).length = lm := ⟨_, rfl⟩
  have HCH : Hid (∀ W, Below w.heap.size w W → Calls Tryz.prog 77 #[.agg (scC u b A n c k).toArray, .slice Y ny d] W fun e w' => (∃ bm M m, e = .returned (.tuple #[.agg #[.map (some bm), .slice M lm m], .int .i64 0]) ∧ NM w' bm 5000 (scnt b l y l.length) (-2048) 2048 ∧ NR w' M m (digs (sall b l l.length))) ∧ Below W.heap.size W w') := fun W hW => by rw [← hlm]; exact chances_yes u b A c l k Y d y W hn hyl (h.below hW) (hy.below hW) hk he
  have HLI : Hid (∀ W, Below w.heap.size w W → Calls Tryz.prog 69 #[.agg #[.slice X lx cx, .slice Z lz cz]] W fun e w' => e = .returned (.bool (limB x z)) ∧ Below W.heap.size W w') := fun W hW => isLimit_any X cx x Z cz z W hlx hlz (hx.below hW) (hz.below hW)
  obtain ⟨W0, hW0⟩ : ∃ W : World, W = (w.alloc (.cells (scC u b A n c k).toArray 46)).alloc (.cells #[.slice X lx cx, .slice Z lz cz] 27) := ⟨_, rfl⟩
  have b0 : Hid (Below w.heap.size w W0) := by unfold Hid; rw [hW0]; exact alloc2_bel _ _ _
  have x0 : Hid (Blk W0 w.heap.size 46 (scC u b A n c k).toArray) := by unfold Hid; rw [hW0]; exact blk_b0 w _ _ _
  have y0 : Hid (Blk W0 (w.heap.size + 1) 27 #[.slice X lx cx, .slice Z lz cz]) := by unfold Hid; rw [hW0]; exact blk_b1 w _ _ _
  have hz0 : Hid (W0.heap.size = w.heap.size + 2) := by unfold Hid; rw [hW0]; simp
  have HW0 := Lib.hid hW0
  rw [hl] at HLI
  clear hn hyl h hy hk hW0 he hv hc r1 r2 r3 r4 hlm hl hx hz hlx hlz
  go_enter Tryz.func31, Tryz.ntmps31
  go_wp2_with (first
    | (rw [← HW0.out])
    | (refine wpList_load_row rfl 46 (.tmp 3) rfl w.heap.size rfl 46 (scC u b A n c k).toArray (0, 0) _ x0.out Tryz.underlying46 rfl HIN.out ?_)
    | (go_at_call 77; (with_reducible refine (HCH.out _ b0.out).mono ?_); rintro e w1 ⟨⟨bm, M, m, rfl, hm1, hn1⟩, hb1⟩; obtain ⟨w2, hw2⟩ : ∃ W, W = w1.alloc (.cells #[.map (some bm), .slice M lm m] 122) := ⟨_, rfl⟩; have E2 : Hid (Below w1.heap.size w1 w2) := (by unfold Hid; rw [hw2]; exact alloc_bel _ _); have D2 : Hid (Below W0.heap.size W0 w2) := bel_on hb1 E2.out; have Y2 := Lib.hid (y0.out.below' D2.out); have S2 : Hid (Blk w2 w1.heap.size 122 #[.map (some bm), .slice M lm m]) := (by unfold Hid; rw [hw2]; exact Blk.new _ _ _); have M2 := Lib.hid (hm1.below E2.out); have N2 := Lib.hid (hn1.below E2.out); have HW2 := Lib.hid hw2; clear hb1 hw2 hm1 hn1)
    | (rw [← HW2.out])
    | (refine wpList_load_row rfl 27 (.tmp 5) rfl (w.heap.size + 1) rfl 27 #[.slice X lx cx, .slice Z lz cz] (0, 0) _ Y2.out Tryz.underlying27 rfl (by kernel_rfl) ?_)
    | (go_at_call 69; (with_reducible refine (HLI.out _ (bel_on b0.out D2.out)).mono ?_); rintro e w3 ⟨rfl, hb3⟩; have D3 := Lib.hid (bel_on D2.out hb3); clear hb3))
  go_ret2
  exact ⟨by rw [HS.out]; rfl, bel_on b0.out D3.out⟩
set_option maxHeartbeats 2000000 in
set_option maxRecDepth 100000 in
theorem Bound_yes (u b : Int) (A : Option Addr) (c : Nat) (l : List Int) (k : List UInt8) (Y : Option Addr) (d : Nat) (y : List UInt8) (X : Option Addr) (cx : Nat) (x : List Nat) (Z : Option Addr) (cz : Nat) (z : List Nat) (w : World) {n ny lx lz : Nat} (hn : l.length = n) (hyl : y.length = ny) (hlx : x.length = lx) (hlz : z.length = lz) (h : IR w A c l) (hy : BR w Y d y) (hk : k.length = 16) (hx : NR w X cx x) (hz : NR w Z cz z) (he : ckSC u b l y = 0) (hl : limB x z = true) :
    Calls Tryz.prog 31 #[.agg (scC u b A n c k).toArray, .slice Y ny d, .agg #[.slice X lx cx, .slice Z lz cz]] w fun e w' => e = .returned (.tuple #[.int .i64 (boundS u b l y x z).1, .int .i64 (boundS u b l y x z).2]) ∧ Below w.heap.size w w' := by
  have HS : Hid (boundS u b l y x z = (sbnd b l y l.length (val x) (val z), 0)) := by unfold Hid boundS; rw [if_pos he, if_pos hl]
  have HIN := Lib.hid (scC_info u b A n c k hk)
  obtain ⟨hv, hc⟩ := ckSC_zero he
  obtain ⟨r1, r2, r3, r4⟩ := score_range (y := y) hv
  obtain ⟨lm, hlm⟩ : ∃ lm, (digs (sall b l l.length)).length = lm := ⟨_, rfl⟩
  have HCH : Hid (∀ W, Below w.heap.size w W → Calls Tryz.prog 77 #[.agg (scC u b A n c k).toArray, .slice Y ny d] W fun e w' => (∃ bm M m, e = .returned (.tuple #[.agg #[.map (some bm), .slice M lm m], .int .i64 0]) ∧ NM w' bm 5000 (scnt b l y l.length) (-2048) 2048 ∧ NR w' M m (digs (sall b l l.length))) ∧ Below W.heap.size W w') := fun W hW => by rw [← hlm]; exact chances_yes u b A c l k Y d y W hn hyl (h.below hW) (hy.below hW) hk he
  have HLI : Hid (∀ W, Below w.heap.size w W → Calls Tryz.prog 69 #[.agg #[.slice X lx cx, .slice Z lz cz]] W fun e w' => e = .returned (.bool (limB x z)) ∧ Below W.heap.size W w') := fun W hW => isLimit_any X cx x Z cz z W hlx hlz (hx.below hW) (hz.below hW)
  obtain ⟨W0, hW0⟩ : ∃ W : World, W = (w.alloc (.cells (scC u b A n c k).toArray 46)).alloc (.cells #[.slice X lx cx, .slice Z lz cz] 27) := ⟨_, rfl⟩
  have b0 : Hid (Below w.heap.size w W0) := by unfold Hid; rw [hW0]; exact alloc2_bel _ _ _
  have x0 : Hid (Blk W0 w.heap.size 46 (scC u b A n c k).toArray) := by unfold Hid; rw [hW0]; exact blk_b0 w _ _ _
  have y0 : Hid (Blk W0 (w.heap.size + 1) 27 #[.slice X lx cx, .slice Z lz cz]) := by unfold Hid; rw [hW0]; exact blk_b1 w _ _ _
  have hz0 : Hid (W0.heap.size = w.heap.size + 2) := by unfold Hid; rw [hW0]; simp
  have HW0 := Lib.hid hW0
  rw [hl] at HLI
  have HBD : Hid (∀ bm M m W, Below w.heap.size w W → NM W bm 5000 (scnt b l y l.length) (-2048) 2048 → NR W M m (digs (sall b l l.length)) → Calls Tryz.prog 85 #[.agg #[.map (some bm), .slice M lm m], .agg #[.slice X lx cx, .slice Z lz cz]] W fun e w' => e = .returned (.int .i64 (sbnd b l y l.length (val x) (val z))) ∧ Below W.heap.size W w') := fun bm M m W hW g1 g2 => bound_any b l y l.length bm lm m M X cx x Z cz z W hlm hlx hlz g1 g2 (hx.below hW) (hz.below hW) hl r1 r2 r3 r4
  clear hn hyl h hy hk hW0 he hv hc r1 r2 r3 r4 hlm hl hx hz hlx hlz
  go_enter Tryz.func31, Tryz.ntmps31
  go_wp2_with (first
    | (rw [← HW0.out])
    | (refine wpList_load_row rfl 46 (.tmp 3) rfl w.heap.size rfl 46 (scC u b A n c k).toArray (0, 0) _ x0.out Tryz.underlying46 rfl HIN.out ?_)
    | (go_at_call 77; (with_reducible refine (HCH.out _ b0.out).mono ?_); rintro e w1 ⟨⟨bm, M, m, rfl, hm1, hn1⟩, hb1⟩; obtain ⟨w2, hw2⟩ : ∃ W, W = w1.alloc (.cells #[.map (some bm), .slice M lm m] 122) := ⟨_, rfl⟩; have E2 : Hid (Below w1.heap.size w1 w2) := (by unfold Hid; rw [hw2]; exact alloc_bel _ _); have D2 : Hid (Below W0.heap.size W0 w2) := bel_on hb1 E2.out; have Y2 := Lib.hid (y0.out.below' D2.out); have S2 : Hid (Blk w2 w1.heap.size 122 #[.map (some bm), .slice M lm m]) := (by unfold Hid; rw [hw2]; exact Blk.new _ _ _); have M2 := Lib.hid (hm1.below E2.out); have N2 := Lib.hid (hn1.below E2.out); have HW2 := Lib.hid hw2; clear hb1 hw2 hm1 hn1)
    | (rw [← HW2.out])
    | (refine wpList_load_row rfl 27 (.tmp 5) rfl (w.heap.size + 1) rfl 27 #[.slice X lx cx, .slice Z lz cz] (0, 0) _ Y2.out Tryz.underlying27 rfl (by kernel_rfl) ?_)
    | (go_at_call 69; (with_reducible refine (HLI.out _ (bel_on b0.out D2.out)).mono ?_); rintro e w3 ⟨rfl, hb3⟩; have D3 := Lib.hid (bel_on D2.out hb3); have S3 := Lib.hid (S2.out.below' hb3); have Y3 := Lib.hid (Y2.out.below' hb3); have M3 := Lib.hid (M2.out.below hb3); have N3 := Lib.hid (N2.out.below hb3); clear hb3)
    | (refine wpList_load_row rfl 122 (.tmp 8) rfl w1.heap.size rfl 122 #[.map (some bm), .slice M lm m] (0, 0) _ S3.out Tryz.underlying122 rfl (by kernel_rfl) ?_)
    | (refine wpList_load_row rfl 27 (.tmp 5) rfl (w.heap.size + 1) rfl 27 #[.slice X lx cx, .slice Z lz cz] (0, 0) _ Y3.out Tryz.underlying27 rfl (by kernel_rfl) ?_)
    | (go_at_call 85; (with_reducible refine (HBD.out _ _ _ _ (bel_on b0.out D3.out) M3.out N3.out).mono ?_); rintro e w4 ⟨rfl, hb4⟩; have D4 := Lib.hid (bel_on D3.out hb4); clear hb4))
  go_ret2
  exact ⟨by rw [HS.out]; rfl, bel_on b0.out D4.out⟩
theorem Bound_any (u b : Int) (A : Option Addr) (c : Nat) (l : List Int) (k : List UInt8) (Y : Option Addr) (d : Nat) (y : List UInt8) (X : Option Addr) (cx : Nat) (x : List Nat) (Z : Option Addr) (cz : Nat) (z : List Nat) (w : World) {n ny lx lz : Nat} (hn : l.length = n) (hyl : y.length = ny) (hlx : x.length = lx) (hlz : z.length = lz) (h : IR w A c l) (hy : BR w Y d y) (hk : k.length = 16) (hx : NR w X cx x) (hz : NR w Z cz z) :
    Calls Tryz.prog 31 #[.agg (scC u b A n c k).toArray, .slice Y ny d, .agg #[.slice X lx cx, .slice Z lz cz]] w fun e w' => e = .returned (.tuple #[.int .i64 (boundS u b l y x z).1, .int .i64 (boundS u b l y x z).2]) ∧ Below w.heap.size w w' := by
  by_cases he : ckSC u b l y = 0
  · cases hl : limB x z
    · exact Bound_lim u b A c l k Y d y X cx x Z cz z w hn hyl hlx hlz h hy hk hx hz he hl
    · exact Bound_yes u b A c l k Y d y X cx x Z cz z w hn hyl hlx hlz h hy hk hx hz he hl
  · exact Bound_no u b A c l k Y d y X cx x Z cz z w hn hyl hlx hlz h hy hk hx hz he
end Go.Proofs.YtenpkmgbaajeeaaGreat

/- The users whose scores reach the bound, of the program. -/
namespace Go.Proofs.YtenpkmgbaajeeaaGreat
open Go.RowKit Go.Maps
set_option linter.unusedVariables false
set_option linter.unusedSimpArgs false

end Go.Proofs.YtenpkmgbaajeeaaGreat
