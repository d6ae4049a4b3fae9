/-
  Lemmas and contracts, joined.
-/
import Derived.LoopIn
import Derived.Stop.RegionWithIn
import Derived.Laws.ResultCell
import Derived.Great.BuildSlice
import Derived.Lib.SliceRun
import Derived.Test.YtinpiodfpnbllaaGreatDoorAuB1
import Derived.Test.YtinpiodfpnbllaaGreatDoorAuA1
import Derived.Test.YtinpiodfpnbllaaGreatDoorAuB2
set_option linter.unusedSimpArgs false
set_option linter.unusedVariables false
set_option linter.unnecessarySimpa false
/- Decrypt. -/
namespace Go.Proofs.YtinpiodfpnbllaaGreatDoor
open Go.RowKit Go.Shelf
set_option linter.unusedVariables false
attribute [local go_sem] Oper.semAt_some run_storeCells_key

/-- The round keys kept so far. -/
def allC (k : W2) (i : Nat) : List Value := (List.range 32).map fun j => if j < i then .int .u64 ((ksS k j).2.toNat : Int) else .int .u64 0
theorem allC_length (k : W2) (i : Nat) : (allC k i).length = 32 := by simp [allC]
theorem allC_get (k : W2) (i j : Nat) (h : j < 32) (hj : j < i) : (allC k i)[j]? = some (.int .u64 ((ksS k j).2.toNat : Int)) := by simp [allC, List.getElem?_range h, hj]
theorem allC_get0 (k : W2) (i : Nat) (h : i < 32) : (allC k i)[i]? = some (.int .u64 0) := by simp [allC, List.getElem?_range h]
theorem allC_set (k : W2) (i : Nat) (h : i < 32) : (allC k i).set i (.int .u64 ((ksS k i).2.toNat : Int)) = allC k (i + 1) := by
  refine List.ext_getElem? fun j => ?_
  rw [List.getElem?_set, allC_length]
  by_cases hj : i = j
  · subst hj
    rw [if_pos rfl, if_pos h, allC_get _ _ _ h (Nat.lt_succ_self _)]
  · rw [if_neg hj]
    rcases Nat.lt_or_ge j 32 with h' | h'
    · simp only [allC, List.getElem?_map, List.getElem?_range h', Option.map_some]
      by_cases h2 : j < i
      · rw [if_pos h2, if_pos (by omega)]
      · rw [if_neg h2, if_neg (by omega)]
    · rw [List.getElem?_eq_none (by rw [allC_length]; exact h'), List.getElem?_eq_none (by rw [allC_length]; exact h')]

theorem blk_4 (w : World) (o0 o1 o2 : Obj) (cs : Array Value) (t : TypeId) : Blk ((((w.alloc o0).alloc o1).alloc o2).alloc (.cells cs t)) (w.heap.size + 1 + 1 + 1) t cs := by
  have h := Blk.new (((w.alloc o0).alloc o1).alloc o2) t cs
  rwa [show (((w.alloc o0).alloc o1).alloc o2).heap.size = w.heap.size + 1 + 1 + 1 from by simp] at h
theorem blk_5 (w : World) (o0 o1 o2 o3 : Obj) (cs : Array Value) (t : TypeId) : Blk (((((w.alloc o0).alloc o1).alloc o2).alloc o3).alloc (.cells cs t)) (w.heap.size + 1 + 1 + 1 + 1) t cs := by
  have h := Blk.new ((((w.alloc o0).alloc o1).alloc o2).alloc o3) t cs
  rwa [show ((((w.alloc o0).alloc o1).alloc o2).alloc o3).heap.size = w.heap.size + 1 + 1 + 1 + 1 from by simp] at h
theorem alloc5_bel (w : World) (o0 o1 o2 o3 o4 : Obj) : Below w.heap.size w (((((w.alloc o0).alloc o1).alloc o2).alloc o3).alloc o4) := ((alloc3_bel w o0 o1 o2).alloc (by simp; omega) o3).alloc (by simp; omega) o4

set_option maxRecDepth 100000 in
set_option maxHeartbeats 2000000 in
theorem Decrypt_any (k b : List UInt8) (w : World) (hk : k.length = 16) (hb : b.length = 16) : Calls Tryz.prog 46 #[.agg (cellsB k).toArray, .agg (cellsB b).toArray] w fun e w' => e = .returned (.agg (cellsB (decS k b)).toArray) ∧ Below w.heap.size w w' := by
  have HK := Lib.hid hk
  have HB := Lib.hid hb
  have hkl : (cellsB k).length = 16 := by rw [cellsB_length, hk]
  have hbl : (cellsB b).length = 16 := by rw [cellsB_length, hb]
  have HZ := Lib.hid zero16
  refine (callsIn_wide (n := 6)).1 ?_
  have conv : ∀ (f : FuncId) (args : Array Value) (W : World) (R : Ending → World → Prop) (n : Nat), Calls Tryz.prog f args W R → CallsIn Fence.wide n Tryz.prog f args W R := fun _ _ _ _ _ h => callsIn_wide.2 h
  have hro : Fence.wide.round = none := rfl
  have hfn : ∀ f, Fence.wide.fn f := fun _ => trivial
  generalize Fence.wide = F at *
  clear hk hb
  refine callsIn_of_wp_marks Tryz.func46 rfl (hfn _) ?_ hro
  simp only [Tryz.ntmps46, List.size_toArray, List.length_cons, List.length_nil, Nat.reduceAdd, Nat.reduceSub, Array.replicate_succ, Array.replicate_zero, List.push_toArray, List.append_toArray, List.nil_append, List.cons_append]
  gi_wp2_with (gi_at_call 105; rw [fold16B k HK.out]; refine (conv _ _ _ _ _ (keys_any k _)).mono ?_; rintro e w2 ⟨rfl, rfl⟩)
  rw [HZ.out]
  have hzz : (allC (wds k) 0).toArray = (#[.int .u64 0, .int .u64 0, .int .u64 0, .int .u64 0, .int .u64 0, .int .u64 0, .int .u64 0, .int .u64 0, .int .u64 0, .int .u64 0, .int .u64 0, .int .u64 0, .int .u64 0, .int .u64 0, .int .u64 0, .int .u64 0, .int .u64 0, .int .u64 0, .int .u64 0, .int .u64 0, .int .u64 0, .int .u64 0, .int .u64 0, .int .u64 0, .int .u64 0, .int .u64 0, .int .u64 0, .int .u64 0, .int .u64 0, .int .u64 0, .int .u64 0, .int .u64 0] : Array Value) := rfl
  have hZZ := Lib.hid hzz
  clear hzz
  obtain ⟨WS, hWS⟩ : ∃ W : World, W = ((((w.alloc (.cells (cellsB k).toArray 24)).alloc (.cells (cellsB b).toArray 24)).alloc (.cells (cellsB zeroK).toArray 24)).alloc (.cells #[.int .u64 0, .int .u64 0, .int .u64 0, .int .u64 0, .int .u64 0, .int .u64 0, .int .u64 0, .int .u64 0, .int .u64 0, .int .u64 0, .int .u64 0, .int .u64 0, .int .u64 0, .int .u64 0, .int .u64 0, .int .u64 0, .int .u64 0, .int .u64 0, .int .u64 0, .int .u64 0, .int .u64 0, .int .u64 0, .int .u64 0, .int .u64 0, .int .u64 0, .int .u64 0, .int .u64 0, .int .u64 0, .int .u64 0, .int .u64 0, .int .u64 0, .int .u64 0] 162)).alloc (.cells (cellsB k).toArray 24) := ⟨_, rfl⟩
  rw [← hWS]
  rw [← hZZ.out] at hWS
  have sWS : WS.heap.size = w.heap.size + 1 + 1 + 1 + 1 + 1 := by rw [hWS]; simp
  have bB : Blk WS (w.heap.size + 1) 24 (cellsB b).toArray := by rw [hWS]; exact (((blk_b1 w _ _ _).alloc _).alloc _).alloc _
  have bR : Blk WS (w.heap.size + 1 + 1) 24 (cellsB zeroK).toArray := by rw [hWS]; exact ((blk_a2 w _ _ _ _).alloc _).alloc _
  have bA : Blk WS (w.heap.size + 1 + 1 + 1) 162 (allC (wds k) 0).toArray := by rw [hWS]; exact (blk_4 w _ _ _ _ _).alloc _
  have bK : Blk WS (w.heap.size + 1 + 1 + 1 + 1) 24 (cellsB k).toArray := by rw [hWS]; exact blk_5 w _ _ _ _ _ _
  have b0S : Below w.heap.size w WS := by rw [hWS]; exact alloc5_bel w _ _ _ _ _
  have HBK : Hid (∀ (p : W2) (u : UInt64) W', CallsIn F 5 Tryz.prog 107 #[.agg #[.int .u64 (p.1.toNat : Int), .int .u64 (p.2.toNat : Int)], .int .u64 (u.toNat : Int)] W' fun e w' => e = .returned (.agg #[.int .u64 ((bck u p).1.toNat : Int), .int .u64 ((bck u p).2.toNat : Int)]) ∧ Below W'.heap.size W' w') := fun p u W' => conv _ _ _ _ _ (back_any p u W')
  have HBL : Hid (∀ (p : W2) W', CallsIn F 5 Tryz.prog 108 #[.agg #[.int .u64 (p.1.toNat : Int), .int .u64 (p.2.toNat : Int)]] W' fun e w' => e = .returned (.agg (cellsB (blk p)).toArray) ∧ Below W'.heap.size W' w') := fun p W' => conv _ _ _ _ _ (block_any p W')
  have HWO : Hid (∀ W', CallsIn F 5 Tryz.prog 106 #[.agg (cellsB b).toArray] W' fun e w' => e = .returned (.agg #[.int .u64 ((wds b).1.toNat : Int), .int .u64 ((wds b).2.toNat : Int)]) ∧ Below W'.heap.size W' w') := fun W' => conv _ _ _ _ _ (wordsOf_any b W' HB.out)
  clear hkl hWS hZZ
  refine wpIn_range_box (xs := List.range 32) hro (by omega) (gf := 154) (lb := #[.pointer (some ⟨w.heap.size + 1 + 1 + 1 + 1, 0, none⟩)]) rfl (hfn _) (enters_of Tryz.func154 (by kernel_rfl) rfl)
    (keys1_in F 5 (w.heap.size + 1 + 1 + 1 + 1) hfn hro (by omega) conv (w.heap.size + 1 + 1 + 1 + 1) k HK.out WS bK (by omega)) KpM.trans (fun W l o o' _ h ho => KpM.put W l o o' h ho) (Below.refl _ _) (fun _ => rfl)
    (fun pre W => Blk W (w.heap.size + 1 + 1 + 1) 162 (allC (wds k) pre.length).toArray ∧ Blk W (w.heap.size + 1 + 1) 24 (cellsB zeroK).toArray ∧ Blk W (w.heap.size + 1) 24 (cellsB b).toArray ∧ Below w.heap.size w W)
    ?hI ⟨bA, bR, bB, b0S⟩ (fun x => { tmps := #[.agg (cellsB k).toArray, .agg (cellsB b).toArray, .pointer (some ⟨w.heap.size, 0, none⟩), .pointer (some ⟨w.heap.size + 1, 0, none⟩), .pointer (some ⟨w.heap.size + 1 + 1, 0, none⟩), .pointer (some ⟨w.heap.size + 1 + 1 + 1, 0, none⟩), .int .i64 (x : Int), .int .u64 ((ksS (wds k) x).2.toNat : Int), undef, undef,
      .agg (cellsB k).toArray, .func (.func 154) #[] #[.pointer (some ⟨w.heap.size + 1 + 1 + 1 + 1, 0, none⟩)], .int .i64 (x : Int), .int .u64 ((ksS (wds k) x).2.toNat : Int), undef, undef, undef, undef, undef, undef, undef, undef, undef, undef, undef, undef, undef, undef, undef, undef], defers := [] }) ?assign ?body ?done
  case hI =>
    rintro pre X Y row ⟨i1, i2, i3, i4⟩ hg hr
    exact ⟨(hg.block _ i1.lt (fun e => by have := hr _ e.symm; omega)).trans i1, (hg.block _ i2.lt (fun e => by have := hr _ e.symm; omega)).trans i2, (hg.block _ i3.lt (fun e => by have := hr _ e.symm; omega)).trans i3, i4.grown hg i4.size (fun g e => by have := hr g e; have := b0S.size; omega)⟩
  case assign =>
    intro l x W K hK
    unfold keyE
    gi_wp2
    exact hK
  case body =>
    rintro l pre x W ⟨i1, i2, i3, i4⟩ ⟨rest, hrest⟩
    have hx : x = pre.length ∧ pre.length < 32 := by
      have := congrArg (fun l => l[pre.length]?) hrest
      simp only [List.getElem?_append_right (Nat.le_refl _), Nat.sub_self, List.getElem?_cons_zero] at this
      rcases Nat.lt_or_ge pre.length 32 with h | h
      · rw [List.getElem?_range h] at this
        injection this with this
        exact ⟨this.symm, h⟩
      · rw [List.getElem?_eq_none (by simpa using h)] at this; cases this
    obtain ⟨hx, hl32⟩ := hx
    rw [← hx] at i1 hl32
    have c0 := i1.cell x
    have f0 := i1.frozen x
    simp only [List.getElem?_toArray, allC_get0 _ _ hl32] at c0
    have hxi : (x : Int) < 32 := by omega
    have HN : Hid ((pre ++ [x]).length = x + 1) := by unfold Hid; simp [hx]
    have HS := Lib.hid (allC_set (wds k) x hl32)
    have I1 := Lib.hid i1
    have I2 := Lib.hid i2
    have I3 := Lib.hid i3
    clear hrest i1 i2 i3 hx hl32
    gi_wp2_with fail
    have kf := (KeepsOthers.setCell W ⟨w.heap.size + 1 + 1 + 1, x, none⟩ (.int .u64 ((ksS (wds k) x).2.toNat : Int))).from WS.heap.size
    refine ⟨kf, ?_, ?_, ?_, ?_, ?_⟩
    · intro j cs t fr hj hc
      exact Below.heap_setCell _ ⟨w.heap.size + 1 + 1 + 1, x, none⟩ _ j (by simp; omega)
    · rw [HN.out, ← HS.out]
      simpa using I1.out.set_ x (.int .u64 ((ksS (wds k) x).2.toNat : Int))
    · exact I2.out.far (p := ⟨w.heap.size + 1 + 1 + 1, x, none⟩) (by simp) _
    · exact I3.out.far (p := ⟨w.heap.size + 1 + 1 + 1, x, none⟩) (by simp) _
    · exact i4.setCell (p := ⟨w.heap.size + 1 + 1 + 1, x, none⟩) (by simp; omega) _
  case done =>
    rintro D W hD ⟨i1, i2, i3, i4⟩ hK
    rw [List.length_range] at i1
    have hcb := i3.cell
    have I1 := Lib.hid i1
    have I2 := Lib.hid i2
    have hD2 : D < W.heap.size := (Array.getElem?_eq_some_iff.1 hK).1
    have HKD := Lib.hid hK
    have HD := Lib.hid hD
    have HWSs := Lib.hid sWS
    clear i1 i2 hK hD sWS bB bR bA bK b0S
    gi_wp2_with (gi_at_call 106; rw [fold16B b HB.out]; refine (HWO.out _).mono ?_; rintro e w3 ⟨rfl, hb3⟩)
    have hsz : W.heap.size ≤ w3.heap.size := hb3.size
    have b03 : Below w.heap.size w w3 := i4.trans (hb3.mono i4.size)
    have b04 : Below w.heap.size w (w3.alloc (.cells #[.int .u64 ((wds b).1.toNat : Int), .int .u64 ((wds b).2.toNat : Int)] 167)) := b03.alloc (by have := b03.size; omega) _
    have J1 : Blk (w3.alloc (.cells #[.int .u64 ((wds b).1.toNat : Int), .int .u64 ((wds b).2.toNat : Int)] 167)) w3.heap.size 167 #[.int .u64 ((wds b).1.toNat : Int), .int .u64 ((wds b).2.toNat : Int)] := Blk.new _ _ _
    have J2 := (I1.out.below' hb3).alloc (.cells #[.int .u64 ((wds b).1.toNat : Int), .int .u64 ((wds b).2.toNat : Int)] 167)
    have J3 := (I2.out.below' hb3).alloc (.cells #[.int .u64 ((wds b).1.toNat : Int), .int .u64 ((wds b).2.toNat : Int)] 167)
    have J4 : (w3.alloc (.cells #[.int .u64 ((wds b).1.toNat : Int), .int .u64 ((wds b).2.toNat : Int)] 167)).heap[D]? = some (.deferred (some [])) := (Below.heap_alloc _ _ _ (by omega)).trans ((hb3.block D hD2).trans HKD.out)
    have hpg : w.heap.size + 1 + 1 + 1 + 1 + 1 ≤ D ∧ D < w3.heap.size := by have := HD.out; have := HWSs.out; omega
    generalize w3.alloc (.cells #[.int .u64 ((wds b).1.toNat : Int), .int .u64 ((wds b).2.toNat : Int)] 167) = W4 at *
    generalize w3.heap.size = pg at *
    clear i3 i4 hcb hb3 hD2 HKD HD HWSs hsz b03 I1 I2
    gi_loopw [9] (fun vi wr => ∃ j : Nat, j ≤ 32 ∧ vi = .int .i64 ((j : Int) - 1) ∧ Blk wr pg 167 #[.int .u64 ((deW (wds k) (wds b) (32 - j)).1.toNat : Int), .int .u64 ((deW (wds k) (wds b) (32 - j)).2.toNat : Int)] ∧ Blk wr (w.heap.size + 1 + 1 + 1) 162 (allC (wds k) 32).toArray ∧ Blk wr (w.heap.size + 1 + 1) 24 (cellsB zeroK).toArray ∧ wr.heap[D]? = some (.deferred (some [])) ∧ Below w.heap.size w wr) (fun vi _ => (intOf vi + 1).toNat)
    case atStart => exact ⟨32, by omega, rfl, J1, J2, J3, J4, b04⟩
    case round =>
      obtain ⟨j', hi, rfl, i1, i2, i3, i4, hbel⟩ := hrel
      clear J1 J2 J3 J4 b04
      by_cases hlt : 0 < j'
      · obtain ⟨j, rfl⟩ : ∃ j, j' = j + 1 := ⟨j' - 1, by omega⟩
        rw [show ((j + 1 : Nat) : Int) - 1 = (j : Int) from by omega]
        have hii : (j : Int) < 32 := by omega
        have hjlt : j < 32 := by omega
        have HES : Hid (deW (wds k) (wds b) (32 - j) = bck (ksS (wds k) j).2 (deW (wds k) (wds b) (32 - (j + 1)))) := deW_step _ _ _ hjlt
        have ca := i2.cell j
        rw [List.getElem?_toArray, allC_get _ _ _ hjlt hjlt] at ca
        obtain ⟨p, hp⟩ : ∃ p, deW (wds k) (wds b) (32 - (j + 1)) = p := ⟨_, rfl⟩
        obtain ⟨u, hu⟩ : ∃ u, (ksS (wds k) j).2 = u := ⟨_, rfl⟩
        rw [hp, hu] at HES
        rw [hp] at i1
        rw [hu] at ca
        have c0 := i1.cell 0
        have c1 := i1.cell 1
        simp only [List.getElem?_toArray, List.getElem?_cons_zero, List.getElem?_cons_succ] at c0 c1
        have I1 := Lib.hid i1
        have I2 := Lib.hid i2
        have I3 := Lib.hid i3
        have I4 := Lib.hid i4
        have HPG := Lib.hid hpg
        clear hp hu hjlt i1 i2 i3 i4 hpg
        gi_wp2_with fail
        gi_region_with (gi_at_call 107; refine (HBK.out p u _).mono ?_; rintro e w4 ⟨rfl, hb4⟩; have hB4 := I1.out.drew.below' hb4; have f0 := hB4.frozen 0; have f1 := hB4.frozen 1; have g0 := hB4.cell 0; have g1 := hB4.cell 1; simp only [List.getElem?_toArray, List.getElem?_cons_zero, List.getElem?_cons_succ] at g0 g1; have HB4 := Lib.hid hB4; clear hB4)
        all_goals
          gi_wp2_with fail
          go_roundw
        all_goals first
          | exact ⟨j, by omega, rfl, by rw [HES.out]; simpa using (HB4.out.set_ 0 (.int .u64 ((bck u p).1.toNat : Int))).set_ 1 (.int .u64 ((bck u p).2.toNat : Int)),
              ((I2.out.drew.below' hb4).far (p := ⟨pg, 0, none⟩) (by simp; have := HPG.out; omega) _).far (p := ⟨pg, 1, none⟩) (by simp; have := HPG.out; omega) _,
              ((I3.out.drew.below' hb4).far (p := ⟨pg, 0, none⟩) (by simp; have := HPG.out; omega) _).far (p := ⟨pg, 1, none⟩) (by simp; have := HPG.out; omega) _,
              ((Below.heap_setCell _ ⟨pg, 1, none⟩ _ D (by simp; have := HPG.out; omega)).trans (Below.heap_setCell _ ⟨pg, 0, none⟩ _ D (by simp; have := HPG.out; omega))).trans ((hb4.block D (Array.getElem?_eq_some_iff.1 I4.out).1).trans I4.out),
              ((hbel.drew.trans (hb4.mono hbel.size)).setCell (p := ⟨pg, 0, none⟩) (by simp; have := HPG.out; omega) _).setCell (p := ⟨pg, 1, none⟩) (by simp; have := HPG.out; omega) _⟩
          | simp [intOf]
      · obtain rfl : j' = 0 := by omega
        have HE : Hid (decS k b = blk (deW (wds k) (wds b) 32)) := rfl
        rw [show 32 - 0 = 32 from rfl] at i1
        obtain ⟨p, hp⟩ : ∃ p, deW (wds k) (wds b) 32 = p := ⟨_, rfl⟩
        rw [hp] at i1 HE
        have c0 := i1.cell 0
        have c1 := i1.cell 1
        simp only [List.getElem?_toArray, List.getElem?_cons_zero, List.getElem?_cons_succ] at c0 c1
        have hl : (cellsB (blk p)).length = 16 := rfl
        have hall : (cellsB (blk p)).all (·.oneCell') = true := List.all_eq_true.2 (cellsB_one _)
        have I3 := Lib.hid i3
        clear hp i1 i2 i3
        gi_wp2_with (gi_at_call 108; refine (HBL.out p _).mono ?_; rintro e w5 ⟨rfl, hb5⟩; have hB5 := I3.out.below' hb5; have hr5 : (rowAt w5 (w.heap.size + 1 + 1)).size = 16 := by { rw [hB5.row]; rfl }; have hf5 := hB5.free; have HB5 := Lib.hid hB5; clear hB5)
        have hB6 := HB5.out.setRow (cellsB (blk p)).toArray
        have hDne : D ≠ w.heap.size + 1 + 1 := by omega
        have hK' : (w5.setRow (w.heap.size + 1 + 1) (cellsB (blk p)).toArray).heap[D]? = some (.deferred (some [])) := (setRow_other _ _ _ _ hDne).trans ((hb5.block D (Array.getElem?_eq_some_iff.1 i4).1).trans i4)
        have hB7 : Blk ((w5.setRow (w.heap.size + 1 + 1) (cellsB (blk p)).toArray).putObj D (.deferred none)) (w.heap.size + 1 + 1) 24 (cellsB (blk p)).toArray := (World.putObj_heap_other (by omega)).trans hB6
        have hbf : Below w.heap.size w (w5.setRow (w.heap.size + 1 + 1) (cellsB (blk p)).toArray) := below_setRow (hbel.trans (hb5.mono hbel.size)) (by omega) _
        refine ⟨by simp, .inl ⟨_, _, rfl, run_takeDeferred hK', ?_⟩⟩
        exact ⟨.agg (cellsB (blk p)).toArray, results_cell_row rfl _ _ (w.heap.size + 1 + 1) _ _ (0, 0) _ rfl hB7 under_key rfl (cellsB_size _ rfl), by rw [HE.out], hbf.trans (belowK_b (w := w) (Nat.le_refl _) _ D _ _ (by omega) hK' rfl rfl)⟩
end Go.Proofs.YtinpiodfpnbllaaGreatDoor

/- The content key of a recording: the program's. -/
namespace Go.Proofs.YtinpiodfpnbllaaGreatDoor
open Go.RowKit
set_option linter.unusedVariables false
attribute [local go_sem] run_storeCells_key run_storeCells_new

set_option maxHeartbeats 1000000 in
set_option maxRecDepth 100000 in
theorem content_any (k x c : List UInt8) (A : Option Addr) (n cap : Nat) (w : World) (hk : k.length = 16) (hx : x.length = 16) (hc : c.length = 16) :
    Calls Tryz.prog 109 #[.agg (cellsB k).toArray, .agg (recC x c A n cap).toArray] w fun e w' => e = .returned (if chkS (decS k x) = c then .tuple #[.agg (cellsB (decS k x)).toArray, .int .i64 0] else .tuple #[.agg (cellsB zeroK).toArray, .int .i64 53]) ∧ Below w.heap.size w w' := by
  have HK := Lib.hid hk
  have HX := Lib.hid hx
  have HC := Lib.hid hc
  have HZ := Lib.hid zero16
  have b0 := alloc3_bel w (.cells (cellsB k).toArray 24) (.cells (recC x c A n cap).toArray 86) (.cells (cellsB zeroK).toArray 24)
  obtain ⟨d, hd⟩ : ∃ d, decS k x = d := ⟨_, rfl⟩
  have hdl : d.length = 16 := by rw [← hd]; rfl
  have HDD := Lib.hid hd
  have HDL := Lib.hid hdl
  have hdc : (cellsB d).length = 16 := by rw [cellsB_length, hdl]
  have hall := all16 d
  rw [hd]
  obtain ⟨q, hq⟩ : ∃ q, chkS d = q := ⟨_, rfl⟩
  have hql : q.length = 16 := by rw [← hq]; rfl
  have HCK : Hid (∀ W, Calls Tryz.prog 118 #[.agg (cellsB d).toArray] W fun e w' => e = .returned (.agg (cellsB q).toArray) ∧ Below W.heap.size W w') := fun W => by rw [← hq]; exact check_any d W hdl
  rw [hq]
  have HQL := Lib.hid hql
  clear hq hql
  clear hk hx hc hd hdl
  go_enter Tryz.func109, Tryz.ntmps109
  go_wp2_with (first
    | (refine wpList_load_row rfl 24 (.tmp 2) rfl w.heap.size rfl 24 (cellsB k).toArray (0, 0) _ (blk_a0 w _ _ _ _) under_key rfl (cellsB_size _ HK.out) ?_)
    | (refine wpList_load_mid rfl 24 (.tmp 8) rfl (w.heap.size + 1) 0 rfl (cellsB x) _ (rec_box (blk_a1 w _ (recC x c A n cap).toArray 86 _)) under_key rfl (key_info HX.out) ?_)
    | (go_at_call 46; refine (Decrypt_any k x _ HK.out HX.out).mono ?_; rintro e w1 ⟨rfl, hb1⟩; rw [HDD.out]))
  have b1 : Below w.heap.size w w1 := b0.trans (hb1.mono b0.size)
  obtain ⟨W4, hW4⟩ : ∃ W : World, W = w1.alloc (.cells (cellsB d).toArray 24) := ⟨_, rfl⟩
  have BD : Hid (Blk W4 w1.heap.size 24 (cellsB d).toArray) := by rw [hW4]; exact Blk.new _ _ _
  have BC : Hid (Blk W4 (w.heap.size + 1) 86 (recC x c A n cap).toArray) := by rw [hW4]; exact ((blk_a1 w _ (recC x c A n cap).toArray 86 _).below' hb1).alloc _
  have BR0 : Hid (Blk W4 (w.heap.size + 1 + 1) 24 (cellsB zeroK).toArray) := by rw [hW4]; rw [← HZ.out]; exact ((blk_a2 w _ _ _ _).below' hb1).alloc _
  have b4 : Below w.heap.size w W4 := by rw [hW4]; exact b1.alloc b1.size _
  rw [← hW4]
  clear hW4
  by_cases hqc : q = c
  · have HQC := Lib.hid hqc
    have hne : ∀ W, (binOp .neq 24 (.agg (cellsB q).toArray) (.agg (cellsB c).toArray)).run Tryz.prog W = .ok (.bool false) W := fun W => by rw [run_neq_keys W q c HQL.out HC.out, hqc]; simp
    clear hqc
    refine wp_region_wd (by kernel_rfl) (by kernel_rfl) ?_
    repeat (first
      | (go_big_quiet_want; refine quiet_load_as w1.heap.size rfl 24 (cellsB d).toArray (0, 0) _ (fun _ hw => by obtain ⟨z, rfl⟩ := hw; exact BD.out.below' z.h) under_key rfl (cellsB_size _ HDL.out) ?_; go_big_quiet_op; go_big_quiet_on)
      | (go_big_quiet_want; refine quiet_mid_as (w.heap.size + 1) 16 rfl (cellsB c) _ (fun _ hw => by obtain ⟨z, rfl⟩ := hw; exact rec_check (BC.out.below' z.h) HX.out) under_key rfl (key_info HC.out) ?_; go_big_quiet_op; go_big_quiet_on)
      | go_big_quiet_step ((go_at_call 118; exact Wd.call _ (HCK.out _))))
    refine wpQuiet_nil ?_
    intro _ hw'
    obtain ⟨xx, hw''⟩ := hw'
    subst hw''
    have B3 := BR0.out.below' xx.h
    have hr3 : (rowAt xx.w (w.heap.size + 1 + 1)).size = 16 := by rw [B3.row]; rfl
    have hf3 := B3.free
    have HB3 := Lib.hid B3
    have b5 := b4.trans (xx.h.mono b4.size)
    clear B3 hne
    go_wp2_with (refine wpList_load_row rfl 24 (.tmp 6) rfl w1.heap.size rfl 24 (cellsB d).toArray (0, 0) _ (BD.out.below' xx.h) under_key rfl (cellsB_size _ HDL.out) ?_)
    refine bodyPost_ret (v := .tuple #[.agg (cellsB d).toArray, .int .i64 0]) ?_ rfl ⟨rfl, below_setRow b5 (by omega) _⟩
    rw [results_cell_tmp Tryz.results109]
    simp [asAddr, Result.andThen, run_loadVar_row _ (w.heap.size + 1 + 1) _ _ _ (0, 0) _ (HB3.out.setRow (cellsB d).toArray) under_key rfl (cellsB_size _ HDL.out)]
  · have HQC := Lib.hid hqc
    have hne : ∀ W, (binOp .neq 24 (.agg (cellsB q).toArray) (.agg (cellsB c).toArray)).run Tryz.prog W = .ok (.bool true) W := fun W => by rw [run_neq_keys W q c HQL.out HC.out]; simp [hqc]
    clear hqc
    refine wp_region_wd (by kernel_rfl) (by kernel_rfl) ?_
    repeat (first
      | (go_big_quiet_want; refine quiet_load_as w1.heap.size rfl 24 (cellsB d).toArray (0, 0) _ (fun _ hw => by obtain ⟨z, rfl⟩ := hw; exact BD.out.below' z.h) under_key rfl (cellsB_size _ HDL.out) ?_; go_big_quiet_op; go_big_quiet_on)
      | (go_big_quiet_want; refine quiet_mid_as (w.heap.size + 1) 16 rfl (cellsB c) _ (fun _ hw => by obtain ⟨z, rfl⟩ := hw; exact rec_check (BC.out.below' z.h) HX.out) under_key rfl (key_info HC.out) ?_; go_big_quiet_op; go_big_quiet_on)
      | go_big_quiet_step ((go_at_call 118; exact Wd.call _ (HCK.out _))))
    refine wpQuiet_nil ?_
    intro _ hw'
    obtain ⟨xx, hw''⟩ := hw'
    subst hw''
    have B3 := BR0.out.below' xx.h
    have hr3 : (rowAt xx.w (w.heap.size + 1 + 1)).size = 16 := by rw [B3.row]; rfl
    have hf3 := B3.free
    have HB3 := Lib.hid B3
    have b5 := b4.trans (xx.h.mono b4.size)
    clear B3 hne
    have hlz : (cellsB zeroK).length = 16 := rfl
    have haz := all16 zeroK
    go_wp2_with (refine wpList_buildTo rfl 24 #[] rfl (some 16) rfl (cellsB zeroK).toArray (by kernel_rfl) ?_)
    refine bodyPost_ret (v := .tuple #[.agg (cellsB zeroK).toArray, .int .i64 53]) ?_ rfl ⟨by first | rfl | rw [if_neg HQC.out], below_setRow b5 (by omega) _⟩
    rw [results_cell_tmp Tryz.results109]
    simp [asAddr, Result.andThen, run_loadVar_row _ (w.heap.size + 1 + 1) _ _ _ (0, 0) _ (HB3.out.setRow (cellsB zeroK).toArray) under_key rfl (cellsB_size _ rfl)]
end Go.Proofs.YtinpiodfpnbllaaGreatDoor

/- Two recordings of the same contents are the same. -/
namespace Go.Proofs.YtinpiodfpnbllaaGreatDoor
open Go.RowKit
set_option linter.unusedVariables false

theorem recC_32 {x c : List UInt8} (A : Option Addr) (n cap : Nat) (hx : x.length = 16) (hc : c.length = 16) : (recC x c A n cap)[32]? = some (.slice A n cap) := by
  have hl : (cellsB x).length = 16 := by rw [cellsB_length, hx]
  have hl2 : (cellsB c).length = 16 := by rw [cellsB_length, hc]
  rw [recC, List.getElem?_append_right (by omega), hl, List.getElem?_append_right (by omega), hl2]
  rfl
theorem equalIn_key_self (w : World) (a : List UInt8) (ha : Hid (a.length = 16)) : (Op.equalIn 10000 24 (.agg (cellsB a).toArray) (.agg (cellsB a).toArray)).run Tryz.prog w = .ok true w := by
  have := run_equalIn_bytes (P := Tryz.prog) w 9998 24 5 16 Tryz.underlying24 Tryz.underlying5 (size_one (by kernel_rfl)) a a ha.out ha.out
  unfold cellsB
  have e : (fun x : UInt8 => Value.int .u8 (x.toNat : Int)) = Extern.Stop.cell := rfl
  rw [e, this]
  simp
attribute [local go_sem] equalIn_key_self
end Go.Proofs.YtinpiodfpnbllaaGreatDoor

/- What a recording plays: the program's. -/
namespace Go.Proofs.YtinpiodfpnbllaaGreatDoor
open Go.RowKit
set_option linter.unusedVariables false
attribute [local go_sem] run_storeCells_key run_storeCells_new

set_option maxHeartbeats 2000000 in
set_option maxRecDepth 100000 in
theorem Play_any (k x c : List UInt8) (A : Option Addr) (m : Nat) (b : List UInt8) (w : World) {L : Nat} (hL : b.length = L) (h : BR w A m b) (hk : k.length = 16) (hx : x.length = 16) (hc : c.length = 16) :
    Calls Tryz.prog 47 #[.agg (cellsB k).toArray, .agg (recC x c A L m).toArray] w fun e w' => BytesErr w.heap.size (plyS k x c b) e w' ∧ Below w.heap.size w w' := by
  have hl0 : (L : Int) ≤ 140737488351232 := by have := h.len; omega
  have HL := Lib.hid hL
  have H := Lib.hid h
  have HK := Lib.hid hk
  have HX := Lib.hid hx
  have HC := Lib.hid hc
  have b0 := alloc2_bel w (.cells (cellsB k).toArray 24) (.cells (recC x c A L m).toArray 86)
  have e1 := recC_32 A L m hx hc
  have HCT : Hid (∀ W, Calls Tryz.prog 109 #[.agg (cellsB k).toArray, .agg (recC x c A L m).toArray] W fun e w' => e = .returned (if chkS (decS k x) = c then .tuple #[.agg (cellsB (decS k x)).toArray, .int .i64 0] else .tuple #[.agg (cellsB zeroK).toArray, .int .i64 53]) ∧ Below W.heap.size W w') := fun W => content_any k x c A L m W hk hx hc
  by_cases hbig : 16384 < L
  · have hbi : (16384 : Int) < L := by omega
    have HS : Hid (plyS k x c b = ([], 4)) := by unfold Hid plyS; rw [if_pos (by omega)]
    clear hL h hk hx hc hbig
    go_enter Tryz.func47, Tryz.ntmps47
    go_wp2_with fail
    go_ret2
    exact ⟨bytesErr_nil _ _ _ HS.out, b0⟩
  · have hbi : (L : Int) ≤ 16384 := by omega
    by_cases hq : chkS (decS k x) = c
    · have HS : Hid (plyS k x c b = strR (decS k x) 0 b) := by unfold Hid plyS strR; rw [if_neg (show ¬ 16384 < b.length by omega), if_pos hq, if_neg (show ¬ 16384 < b.length by omega)]
      rw [if_pos hq] at HCT
      have hdl : (decS k x).length = 16 := rfl
      have HST : Hid (∀ W, BR W A m b → Calls Tryz.prog 50 #[.agg (cellsB (decS k x)).toArray, .int .u64 0, .slice A L m] W fun e w' => BytesErr W.heap.size (strR (decS k x) 0 b) e w' ∧ Below W.heap.size W w') := fun W hW => Stream_any (decS k x) 0 A m b W hL hW hdl
      clear hq
      generalize decS k x = d at HCT hdl HST HS
      have HDL := Lib.hid hdl
      have hdc : (cellsB d).length = 16 := by rw [cellsB_length, hdl]
      have hall := all16 d
      have hcell : ((w.alloc (.cells (cellsB k).toArray 24)).alloc (.cells (recC x c A L m).toArray 86)).cell? ⟨w.heap.size + 1, 32, none⟩ = some (.slice A L m) := rec_data (blk_b1 w (.cells (cellsB k).toArray 24) (recC x c A L m).toArray 86) hx hc
      have HCELL := Lib.hid hcell
      clear hcell hdl hL h hk hx hc hbig
      go_enter Tryz.func47, Tryz.ntmps47
      go_wp2_with (first
        | (refine wpList_load_row rfl 24 (.tmp 2) rfl w.heap.size rfl 24 (cellsB k).toArray (0, 0) _ (blk_b0 w _ _ _) under_key rfl (cellsB_size _ HK.out) ?_)
        | (refine wpList_load_row rfl 86 (.tmp 3) rfl (w.heap.size + 1) rfl 86 (recC x c A L m).toArray (0, 0) _ (blk_b1 w _ _ _) Tryz.underlying86 rfl (rec_info _ _ _ HX.out HC.out) ?_)
        | (go_at_call 109; refine (HCT.out _).mono ?_; rintro e w1 ⟨rfl, hb1⟩; have hc1 := rec_data (((blk_b1 w (.cells (cellsB k).toArray 24) (recC x c A L m).toArray 86).below' hb1).alloc (.cells (cellsB d).toArray 24)) HX.out HC.out; have b1 := b0.trans (hb1.mono b0.size))
        | (refine wpList_load_row rfl 24 (.tmp 6) rfl w1.heap.size rfl 24 (cellsB d).toArray (0, 0) _ (Blk.new w1 _ _) under_key rfl (cellsB_size _ HDL.out) ?_)
        | (go_at_call 50; refine (HST.out _ (H.out.below (b1.alloc b1.size _))).mono ?_; rintro e w2 ⟨⟨A2, c2, rfl, ho2⟩, hb2⟩; have HO2 := Lib.hid ho2; clear ho2))
      go_ret2
      exact ⟨⟨A2, c2, by rw [HS.out]; rfl, by rw [HS.out]; exact OB.le_ HO2.out (b1.alloc b1.size _).size⟩, bel_on (b1.alloc b1.size _) hb2⟩
    · have HS : Hid (plyS k x c b = ([], 53)) := by unfold Hid plyS; rw [if_neg (show ¬ 16384 < b.length by omega), if_neg hq]
      rw [if_neg hq] at HCT
      have hdc : (cellsB zeroK).length = 16 := rfl
      have hall := all16 zeroK
      clear hq hL h hk hx hc hbig
      go_enter Tryz.func47, Tryz.ntmps47
      go_wp2_with (first
        | (refine wpList_load_row rfl 24 (.tmp 2) rfl w.heap.size rfl 24 (cellsB k).toArray (0, 0) _ (blk_b0 w _ _ _) under_key rfl (cellsB_size _ HK.out) ?_)
        | (refine wpList_load_row rfl 86 (.tmp 3) rfl (w.heap.size + 1) rfl 86 (recC x c A L m).toArray (0, 0) _ (blk_b1 w _ _ _) Tryz.underlying86 rfl (rec_info _ _ _ HX.out HC.out) ?_)
        | (go_at_call 109; refine (HCT.out _).mono ?_; rintro e w1 ⟨rfl, hb1⟩; have b1 := b0.trans (hb1.mono b0.size)))
      go_ret2
      exact ⟨bytesErr_nil _ _ _ HS.out, b1.alloc b1.size _⟩
end Go.Proofs.YtinpiodfpnbllaaGreatDoor

/- slices.Clone at bytes. -/
namespace Go.Proofs.YtinpiodfpnbllaaGreatDoor
open Go.RowKit
set_option linter.unusedVariables false

theorem eql_bytes_nil (w : World) (a : Option Addr) (n c n' c' : Nat) : (binOp .eql 22 (.slice a n c) (.slice none n' c')).run Tryz.prog w = .ok (.bool a.isNone) w := Lib.run_eql_slice_nil w _ _ a n c n' c' Tryz.underlying22
attribute [local go_sem] eql_bytes_nil
theorem BR.none_nil {w : World} {c : Nat} {b : List UInt8} (h : BR w none c b) : b = [] := by
  apply Classical.byContradiction
  intro hne
  obtain ⟨g, off, e, _⟩ := h.2 (by have := List.length_pos_iff.2 hne; omega)
  cases e
set_option maxHeartbeats 1000000 in
theorem CloneB_any (A : Option Addr) (c : Nat) (b : List UInt8) (w : World) {n : Nat} (hn : b.length = n) (h : BR w A c b) :
    Calls Tryz.prog 110 #[.slice A n c] w fun e w' => (∃ A' c', e = .returned (.slice A' n c') ∧ OB w.heap.size w' A' c' b) ∧ Below w.heap.size w w' := by
  have hl0 : (n : Int) ≤ 140737488351232 := by have := h.len; omega
  have HN := Lib.hid hn
  have H := Lib.hid h
  cases A with
  | none =>
    have hb := h.none_nil
    subst hb
    obtain rfl : n = 0 := by simpa using hn.symm
    clear hn h
    go_enter Tryz.func110, Tryz.ntmps110
    go_wp2_with fail
    go_ret
    exact ⟨⟨none, 0, rfl, OB.nil' _ _⟩, Below.refl _ _⟩
  | some a =>
    clear hn h
    go_enter Tryz.func110, Tryz.ntmps110
    go_wp2_with (at_builtin; refine wpList_append_bytes _ rfl (.tmp 5) (.tmp 6) rfl w.heap.size (some ⟨w.heap.size, 0, none⟩) 0 0 [] rfl rfl (OB.lit0 _ _ (Nat.le_refl _)) (some a) n c b HN.out rfl ((H.out.below (alloc_bel _ _)).src HN.out) (by have := hl0; omega) (by simp) ?_; intro A1 c1 w1 hon1 hbl1 hg1; clear hg1; have HON1 := Lib.hid hon1; clear hon1; simp only [Nat.zero_add])
    go_ret
    exact ⟨⟨A1, c1, rfl, HON1.out⟩, (alloc_bel w _).trans hbl1⟩
end Go.Proofs.YtinpiodfpnbllaaGreatDoor

/- A recording under another key: the program's. -/
namespace Go.Proofs.YtinpiodfpnbllaaGreatDoor
open Go.RowKit
set_option linter.unusedVariables false
attribute [local go_sem] run_storeCells_rec run_storeCells_key run_storeCells_new

theorem alloc4_bel (w : World) (o0 o1 o2 o3 : Obj) : Below w.heap.size w ((((w.alloc o0).alloc o1).alloc o2).alloc o3) := (alloc3_bel w o0 o1 o2).alloc (by simp; omega) _
theorem blk_d0 (w : World) (cs : Array Value) (t : TypeId) (o1 o2 o3 : Obj) : Blk ((((w.alloc (.cells cs t)).alloc o1).alloc o2).alloc o3) w.heap.size t cs := (blk_a0 w cs t o1 o2).alloc o3
theorem blk_d1 (w : World) (o0 : Obj) (cs : Array Value) (t : TypeId) (o2 o3 : Obj) : Blk ((((w.alloc o0).alloc (.cells cs t)).alloc o2).alloc o3) (w.heap.size + 1) t cs := (blk_a1 w o0 cs t o2).alloc o3
theorem blk_d2 (w : World) (o0 o1 : Obj) (cs : Array Value) (t : TypeId) (o3 : Obj) : Blk ((((w.alloc o0).alloc o1).alloc (.cells cs t)).alloc o3) (w.heap.size + 1 + 1) t cs := (blk_a2 w o0 o1 cs t).alloc o3
theorem blk_d3 (w : World) (o0 o1 o2 : Obj) (cs : Array Value) (t : TypeId) : Blk ((((w.alloc o0).alloc o1).alloc o2).alloc (.cells cs t)) (w.heap.size + 1 + 1 + 1) t cs := by
  have := blk_a2 (w.alloc o0) o1 o2 cs t
  rwa [World.size_alloc] at this

set_option maxHeartbeats 2000000 in
set_option maxRecDepth 100000 in
theorem Rekey_yes (k a x c : List UInt8) (A : Option Addr) (m : Nat) (b : List UInt8) (w : World) {L : Nat} (hL : b.length = L) (h : BR w A m b) (hk : k.length = 16) (ha : a.length = 16) (hx : x.length = 16) (hc : c.length = 16) (hq : chkS (decS k x) = c) :
    Calls Tryz.prog 48 #[.agg (cellsB k).toArray, .agg (cellsB a).toArray, .agg (recC x c A L m).toArray] w fun e w' => RecErr w.heap.size (rekS k a x c b) e w' ∧ Below w.heap.size w w' := by
  have HL := Lib.hid hL
  have H := Lib.hid h
  have HK := Lib.hid hk
  have HA := Lib.hid ha
  have HX := Lib.hid hx
  have HC := Lib.hid hc
  have HZ := Lib.hid zero33
  have HZ16 := Lib.hid zero16
  have b0 := alloc4_bel w (.cells (cellsB k).toArray 24) (.cells (cellsB a).toArray 24) (.cells (recC x c A L m).toArray 86) (.cells (recC zeroK zeroK none 0 0).toArray 86)
  have HCT : Hid (∀ W, Calls Tryz.prog 109 #[.agg (cellsB k).toArray, .agg (recC x c A L m).toArray] W fun e w' => e = .returned (if chkS (decS k x) = c then .tuple #[.agg (cellsB (decS k x)).toArray, .int .i64 0] else .tuple #[.agg (cellsB zeroK).toArray, .int .i64 53]) ∧ Below W.heap.size W w') := fun W => content_any k x c A L m W hk hx hc
  have HS : Hid (rekS k a x c b = ⟨encS a (decS k x), c, b, 0⟩) := by unfold Hid rekS; rw [if_pos hq]
  rw [if_pos hq] at HCT
  have hdl : (decS k x).length = 16 := rfl
  have HEN : Hid (∀ W, Calls Tryz.prog 51 #[.agg (cellsB a).toArray, .agg (cellsB (decS k x)).toArray] W fun e w' => e = .returned (.agg (cellsB (encS a (decS k x))).toArray) ∧ Below W.heap.size W w') := fun W => Encrypt_any a (decS k x) W ha hdl
  have HEL : Hid ((encS a (decS k x)).length = 16) := rfl
  clear hq
  generalize encS a (decS k x) = E at HS HEN HEL
  generalize decS k x = d at HCT hdl HEN
  have HDL := Lib.hid hdl
  have hdc : (cellsB d).length = 16 := by rw [cellsB_length, hdl]
  have hall := all16 d
  clear hdl hL h hk ha hx hc
  go_enter Tryz.func48, Tryz.ntmps48
  go_wp2_with (first
    | (rw [HZ.out]; refine wpList_load_row rfl 24 (.tmp 3) rfl w.heap.size rfl 24 (cellsB k).toArray (0, 0) _ (blk_d0 w _ _ _ _ _) under_key rfl (cellsB_size _ HK.out) ?_)
    | (refine wpList_load_row rfl 86 (.tmp 5) rfl (w.heap.size + 1 + 1) rfl 86 (recC x c A L m).toArray (0, 0) _ (blk_d2 w _ _ _ _ _) Tryz.underlying86 rfl (rec_info _ _ _ HX.out HC.out) ?_)
    | (go_at_call 109; refine (HCT.out _).mono ?_; rintro e w1 ⟨rfl, hb1⟩; have B1 := Lib.hid ((blk_d1 w (.cells (cellsB k).toArray 24) (cellsB a).toArray 24 (.cells (recC x c A L m).toArray 86) (.cells (recC zeroK zeroK none 0 0).toArray 86)).below' hb1); have B2 := Lib.hid ((blk_d2 w (.cells (cellsB k).toArray 24) (.cells (cellsB a).toArray 24) (recC x c A L m).toArray 86 (.cells (recC zeroK zeroK none 0 0).toArray 86)).below' hb1); have B3 := Lib.hid ((blk_d3 w (.cells (cellsB k).toArray 24) (.cells (cellsB a).toArray 24) (.cells (recC x c A L m).toArray 86) (recC zeroK zeroK none 0 0).toArray 86).below' hb1)))
  have b1 : Below w.heap.size w w1 := b0.trans (hb1.mono b0.size)
  have hsz : w.heap.size + 1 + 1 + 1 < w1.heap.size := B3.out.lt
  obtain ⟨W4, hW4⟩ : ∃ W : World, W = w1.alloc (.cells (cellsB d).toArray 24) := ⟨_, rfl⟩
  have BD : Hid (Blk W4 w1.heap.size 24 (cellsB d).toArray) := by rw [hW4]; exact Blk.new _ _ _
  have C1 : Hid (Blk W4 (w.heap.size + 1) 24 (cellsB a).toArray) := by rw [hW4]; exact B1.out.alloc _
  have C2 : Hid (Blk W4 (w.heap.size + 1 + 1) 86 (recC x c A L m).toArray) := by rw [hW4]; exact B2.out.alloc _
  have C3 : Hid (Blk W4 (w.heap.size + 1 + 1 + 1) 86 (recC zeroK zeroK none 0 0).toArray) := by rw [hW4]; exact B3.out.alloc _
  have b4 : Below w.heap.size w W4 := by rw [hW4]; exact b1.alloc b1.size _
  have hsz4 : w.heap.size + 1 + 1 + 1 < W4.heap.size := C3.out.lt
  rw [← hW4]
  clear hW4 hall hdc
  refine wp_region_noPanic ?_
  refine wp_region_held_drew (S := fun w' => w'.rangeAt (w.heap.size + 1) 0 (cellsB a) ∧ w'.rangeAt w1.heap.size 0 (cellsB d) ∧ w'.rangeAt (w.heap.size + 1 + 1) 16 (cellsB c) ∧ w'.cell? ⟨w.heap.size + 1 + 1, 32, none⟩ = some (.slice A L m)) (by kernel_rfl) ⟨C1.out.drew.range, BD.out.drew.range, rec_check C2.out.drew HX.out, rec_data C2.out.drew HX.out HC.out⟩ (fun hS => ?_)
  refine hd_load 0 (w.heap.size + 1) 0 (cellsB a) _ _ rfl rfl rfl (by kernel_rfl) (by kernel_rfl) (by kernel_rfl) (fun _ _ _ h => h) rfl (fun w hw => hw.1) under_key rfl (key_info HA.out) hS ?_
  refine hd_load 1 w1.heap.size 0 (cellsB d) _ _ rfl rfl rfl (by kernel_rfl) (by kernel_rfl) (by kernel_rfl) (fun _ _ _ h => h) rfl (fun w hw => hw.2.1) under_key rfl (key_info HDL.out) hS ?_
  refine hd_take 3 (.pointer (some ⟨w.heap.size + 1 + 1, 16, none⟩)) rfl rfl (by kernel_rfl) (by kernel_rfl) (by kernel_rfl) (fun _ _ _ h => h) (fun w _ => by go_simp) hS ?_
  refine hd_load 4 (w.heap.size + 1 + 1) 16 (cellsB c) _ _ rfl rfl rfl (by kernel_rfl) (by kernel_rfl) (by kernel_rfl) (fun _ _ _ h => h) rfl (fun w hw => hw.2.2.1) under_key rfl (key_info HC.out) hS ?_
  refine hd_take 5 (.pointer (some ⟨w.heap.size + 1 + 1, 32, none⟩)) rfl rfl (by kernel_rfl) (by kernel_rfl) (by kernel_rfl) (fun _ _ _ h => h) (fun w _ => by go_simp) hS ?_
  refine hd_take 6 (.slice A L m) rfl rfl (by kernel_rfl) (by kernel_rfl) (by kernel_rfl) (fun _ _ _ h => h) (fun w hw => by have hw3 := hw.2.2.2; clear hw; go_simp) hS ?_
  simp only [List.getElem_toArray, List.getElem_cons_succ, List.getElem_cons_zero, Act.put, List.setIfInBounds_toArray, List.set_cons_zero, List.set_cons_succ]
  refine hd_calls 2 51 #[.agg (cellsB a).toArray, .agg (cellsB d).toArray] rfl rfl (by kernel_rfl) (by go_simp) ((HEN.out _).mono ?_)
  rintro e w5 ⟨rfl, hb5⟩
  have hS5 := And.intro (range_below hS.1 hb5) (And.intro (range_below hS.2.1 hb5) (And.intro (range_below hS.2.2.1 hb5) (rec_data (C2.out.drew.below' hb5) HX.out HC.out)))
  refine ⟨_, rfl, hS5, ?_⟩
  have hb05 : Below W4.heap.size W4 w5 := bel_on (Below.refl _ _).drew hb5
  have b5 := bel_on b4 hb05
  refine hd_calls 7 110 #[.slice A L m] rfl rfl (by kernel_rfl) (by go_simp) ((CloneB_any A m b _ HL.out (H.out.below b5)).mono ?_)
  rintro e w6 ⟨⟨A6, c6, rfl, ho6⟩, hb6⟩
  have hS6 := And.intro (range_below hS5.1 hb6) (And.intro (range_below hS5.2.1 hb6) (And.intro (range_below hS5.2.2.1 hb6) (rec_data ((C2.out.drew.below' hb5).below' hb6) HX.out HC.out)))
  refine ⟨_, rfl, hS6, ?_⟩
  simp only [List.getElem_toArray, List.getElem_cons_succ, List.getElem_cons_zero, Act.put, List.setIfInBounds_toArray, List.set_cons_zero, List.set_cons_succ]
  refine hd_build3 8 86 (.agg (cellsB E).toArray) (.agg (cellsB c).toArray) (.slice A6 L c6) (recC E c A6 L c6).toArray _ _ _ rfl rfl rfl (by kernel_rfl) (by kernel_rfl) (by kernel_rfl) (fun _ _ _ h => h) rfl rfl rfl (built_rec _ _ _ _ _ HEL.out HC.out) hS6 ?_
  have r6 := (C3.out.drew.below' hb5).below' hb6
  have hS7 := And.intro (range_setRow hS6.1 (g' := w.heap.size + 1 + 1 + 1) (by omega) (recC E c A6 L c6).toArray) (And.intro (range_setRow hS6.2.1 (g' := w.heap.size + 1 + 1 + 1) (by omega) (recC E c A6 L c6).toArray) (And.intro (range_setRow hS6.2.2.1 (g' := w.heap.size + 1 + 1 + 1) (by omega) (recC E c A6 L c6).toArray) (show (w6.setRow (w.heap.size + 1 + 1 + 1) (recC E c A6 L c6).toArray).cell? ⟨w.heap.size + 1 + 1, 32, none⟩ = some (.slice A L m) from by rw [← hS6.2.2.2]; exact World.cell?_of_block (setRow_other w6 (w.heap.size + 1 + 1 + 1) (w.heap.size + 1 + 1) (recC E c A6 L c6).toArray (by omega)))))
  simp only [List.getElem_toArray, List.getElem_cons_succ, List.getElem_cons_zero, Act.put, List.setIfInBounds_toArray, List.set_cons_zero, List.set_cons_succ]
  refine hd_store 9 (w.heap.size + 1 + 1 + 1) (recC E c A6 L c6).toArray _ _ _ rfl rfl rfl (by kernel_rfl) rfl rfl r6 (rec_info _ _ _ HEL.out HC.out) (by rw [List.size_toArray, List.size_toArray, recC_length _ _ _ HEL.out HC.out]; rfl) (by simpa using recC_all _ _ _ _ _) hS7 ?_
  refine hd_take 10 (.int .i64 0) rfl rfl (by kernel_rfl) (by kernel_rfl) (by kernel_rfl) (fun _ _ _ h => h) (fun w _ => by go_simp) hS7 ?_
  refine wpAnyH_done (by kernel_rfl) (NoPanic.normal ?_) _
  simp only [List.getElem_toArray, List.getElem_cons_succ, List.getElem_cons_zero, Act.put, List.setIfInBounds_toArray, List.set_cons_zero, List.set_cons_succ]
  have b6 := bel_on b5 hb6
  have HO2 := Lib.hid (OB.le_ (B' := w.heap.size) (ho6.low (g := w.heap.size + 1 + 1 + 1) (Nat.lt_of_lt_of_le hsz4 hb05.size) (recC E c A6 L c6).toArray) b5.size)
  go_wp2_with fail
  refine bodyPost_ret (v := .tuple #[.agg (recC E c A6 L c6).toArray, .int .i64 0]) ?_ rfl ⟨⟨A6, c6, by rw [HS.out]; show _ = Ending.returned (.tuple #[.agg (recC E c A6 b.length c6).toArray, .int .i64 0]); rw [HL.out], by rw [HS.out]; exact HO2.out⟩, below_setRow b6 (by omega) _⟩
  rw [results_cell_tmp Tryz.results48]
  simp [asAddr, Result.andThen, run_loadVar_row _ (w.heap.size + 1 + 1 + 1) _ _ _ (0, 0) _ (r6.setRow (recC E c A6 L c6).toArray) Tryz.underlying86 rfl (rec_info _ _ _ HEL.out HC.out)]

set_option maxHeartbeats 2000000 in
set_option maxRecDepth 100000 in
theorem Rekey_no (k a x c : List UInt8) (A : Option Addr) (m : Nat) (b : List UInt8) (w : World) {L : Nat} (hL : b.length = L) (h : BR w A m b) (hk : k.length = 16) (ha : a.length = 16) (hx : x.length = 16) (hc : c.length = 16) (hq : ¬ chkS (decS k x) = c) :
    Calls Tryz.prog 48 #[.agg (cellsB k).toArray, .agg (cellsB a).toArray, .agg (recC x c A L m).toArray] w fun e w' => RecErr w.heap.size (rekS k a x c b) e w' ∧ Below w.heap.size w w' := by
  have HL := Lib.hid hL
  have H := Lib.hid h
  have HK := Lib.hid hk
  have HA := Lib.hid ha
  have HX := Lib.hid hx
  have HC := Lib.hid hc
  have HZ := Lib.hid zero33
  have HZ16 := Lib.hid zero16
  have b0 := alloc4_bel w (.cells (cellsB k).toArray 24) (.cells (cellsB a).toArray 24) (.cells (recC x c A L m).toArray 86) (.cells (recC zeroK zeroK none 0 0).toArray 86)
  have HCT : Hid (∀ W, Calls Tryz.prog 109 #[.agg (cellsB k).toArray, .agg (recC x c A L m).toArray] W fun e w' => e = .returned (if chkS (decS k x) = c then .tuple #[.agg (cellsB (decS k x)).toArray, .int .i64 0] else .tuple #[.agg (cellsB zeroK).toArray, .int .i64 53]) ∧ Below W.heap.size W w') := fun W => content_any k x c A L m W hk hx hc
  have HS : Hid (rekS k a x c b = noRec 53) := by unfold Hid rekS; rw [if_neg hq]
  rw [if_neg hq] at HCT
  have hlz : (recC zeroK zeroK none 0 0).length = 33 := rfl
  have haz := recC_all zeroK zeroK none 0 0
  have hdc : (cellsB zeroK).length = 16 := rfl
  have hall := all16 zeroK
  clear hq hL h hk ha hx hc
  go_enter Tryz.func48, Tryz.ntmps48
  go_wp2_with (first
    | (rw [HZ.out]; refine wpList_load_row rfl 24 (.tmp 3) rfl w.heap.size rfl 24 (cellsB k).toArray (0, 0) _ (blk_d0 w _ _ _ _ _) under_key rfl (cellsB_size _ HK.out) ?_)
    | (refine wpList_load_row rfl 86 (.tmp 5) rfl (w.heap.size + 1 + 1) rfl 86 (recC x c A L m).toArray (0, 0) _ (blk_d2 w _ _ _ _ _) Tryz.underlying86 rfl (rec_info _ _ _ HX.out HC.out) ?_)
    | (go_at_call 109; refine (HCT.out _).mono ?_; rintro e w1 ⟨rfl, hb1⟩; have B3 := ((blk_d3 w (.cells (cellsB k).toArray 24) (.cells (cellsB a).toArray 24) (.cells (recC x c A L m).toArray 86) (recC zeroK zeroK none 0 0).toArray 86).below' hb1).alloc (.cells (cellsB zeroK).toArray 24); have hr3 : (rowAt (w1.alloc (.cells (cellsB zeroK).toArray 24)) (w.heap.size + 1 + 1 + 1)).size = 33 := by { rw [B3.row]; rfl }; have hf3 := B3.free; have HB3 := Lib.hid B3; clear B3)
    | (refine wpList_buildTo rfl 86 #[] rfl (some 18) rfl (recC zeroK zeroK none 0 0).toArray (by kernel_rfl) ?_))
  have b1 : Below w.heap.size w w1 := b0.trans (hb1.mono b0.size)
  refine bodyPost_ret (v := .tuple #[.agg (recC zeroK zeroK none 0 0).toArray, .int .i64 53]) ?_ rfl ⟨⟨none, 0, by rw [HS.out]; rfl, by rw [HS.out]; exact OB.nil' _ _⟩, below_setRow (b1.alloc b1.size _) (by omega) _⟩
  rw [results_cell_tmp Tryz.results48]
  simp [asAddr, Result.andThen, run_loadVar_row _ (w.heap.size + 1 + 1 + 1) _ _ _ (0, 0) _ (HB3.out.setRow (recC zeroK zeroK none 0 0).toArray) Tryz.underlying86 rfl (rec_info none 0 0 zeroK_length zeroK_length)]

theorem Rekey_any (k a x c : List UInt8) (A : Option Addr) (m : Nat) (b : List UInt8) (w : World) {L : Nat} (hL : b.length = L) (h : BR w A m b) (hk : k.length = 16) (ha : a.length = 16) (hx : x.length = 16) (hc : c.length = 16) :
    Calls Tryz.prog 48 #[.agg (cellsB k).toArray, .agg (cellsB a).toArray, .agg (recC x c A L m).toArray] w fun e w' => RecErr w.heap.size (rekS k a x c b) e w' ∧ Below w.heap.size w w' := by
  by_cases hq : chkS (decS k x) = c
  · exact Rekey_yes k a x c A m b w hL h hk ha hx hc hq
  · exact Rekey_no k a x c A m b w hL h hk ha hx hc hq
end Go.Proofs.YtinpiodfpnbllaaGreatDoor
