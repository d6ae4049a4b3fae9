/-
  Decrypt.
-/
import Derived.Test.YtinpiodfpnbllaaSpeckEnc
import Derived.Test.YtinpiodfpnbllaaSpeckBack
import Derived.LoopIn
import Derived.Stop.RegionWithIn
namespace Go.Proofs.Ytinpiodfpnbllaa
open Go.RowKit Go.Shelf
set_option linter.unusedVariables false
attribute [local go_sem] Oper.semAt_some run_storeCells_key

/-- The round keys kept so far. -/
def allC (k : W2) (i : Nat) : List Value := (List.range 32).map fun j => if j < i then .int .u64 ((ksS k j).2.toNat : Int) else .int .u64 0
theorem allC_zero (k : W2) : allC k 0 = List.replicate 32 (.int .u64 0) := rfl
theorem allC_length (k : W2) (i : Nat) : (allC k i).length = 32 := by simp [allC]
theorem allC_get (k : W2) (i j : Nat) (h : j < 32) (hj : j < i) : (allC k i)[j]? = some (.int .u64 ((ksS k j).2.toNat : Int)) := by simp [allC, List.getElem?_range h, hj]
theorem allC_get0 (k : W2) (i : Nat) (h : i < 32) : (allC k i)[i]? = some (.int .u64 0) := by simp [allC, List.getElem?_range h]
theorem allC_set (k : W2) (i : Nat) (h : i < 32) : (allC k i).set i (.int .u64 ((ksS k i).2.toNat : Int)) = allC k (i + 1) := by
  refine List.ext_getElem? fun j => ?_
  rw [List.getElem?_set, allC_length]
  by_cases hj : i = j
  · subst hj
    rw [if_pos rfl, if_pos h, allC_get _ _ _ h (Nat.lt_succ_self _)]
  · rw [if_neg hj]
    rcases Nat.lt_or_ge j 32 with h' | h'
    · simp only [allC, List.getElem?_map, List.getElem?_range h', Option.map_some]
      by_cases h2 : j < i
      · rw [if_pos h2, if_pos (by omega)]
      · rw [if_neg h2, if_neg (by omega)]
    · rw [List.getElem?_eq_none (by rw [allC_length]; exact h'), List.getElem?_eq_none (by rw [allC_length]; exact h')]

theorem blk_4 (w : World) (o0 o1 o2 : Obj) (cs : Array Value) (t : TypeId) : Blk ((((w.alloc o0).alloc o1).alloc o2).alloc (.cells cs t)) (w.heap.size + 1 + 1 + 1) t cs := by
  have h := Blk.new (((w.alloc o0).alloc o1).alloc o2) t cs
  rwa [show (((w.alloc o0).alloc o1).alloc o2).heap.size = w.heap.size + 1 + 1 + 1 from by simp] at h
theorem blk_5 (w : World) (o0 o1 o2 o3 : Obj) (cs : Array Value) (t : TypeId) : Blk (((((w.alloc o0).alloc o1).alloc o2).alloc o3).alloc (.cells cs t)) (w.heap.size + 1 + 1 + 1 + 1) t cs := by
  have h := Blk.new ((((w.alloc o0).alloc o1).alloc o2).alloc o3) t cs
  rwa [show ((((w.alloc o0).alloc o1).alloc o2).alloc o3).heap.size = w.heap.size + 1 + 1 + 1 + 1 from by simp] at h
theorem alloc5_bel (w : World) (o0 o1 o2 o3 o4 : Obj) : Below w.heap.size w (((((w.alloc o0).alloc o1).alloc o2).alloc o3).alloc o4) := ((alloc3_bel w o0 o1 o2).alloc (by simp; omega) o3).alloc (by simp; omega) o4

set_option maxRecDepth 100000 in
set_option maxHeartbeats 2000000 in
theorem Decrypt_any (k b : List UInt8) (w : World) (hk : k.length = 16) (hb : b.length = 16) : Calls Try.prog 120 #[.agg (cellsB k).toArray, .agg (cellsB b).toArray] w fun e w' => e = .returned (.agg (cellsB (decS k b)).toArray) ∧ Below w.heap.size w w' := by
  have HK := Lib.hid hk
  have HB := Lib.hid hb
  have hkl : (cellsB k).length = 16 := by rw [cellsB_length, hk]
  have hbl : (cellsB b).length = 16 := by rw [cellsB_length, hb]
  have HZ := Lib.hid zero16
  refine (callsIn_wide (n := 6)).1 ?_
  have conv : ∀ (f : FuncId) (args : Array Value) (W : World) (R : Ending → World → Prop) (n : Nat), Calls Try.prog f args W R → CallsIn Fence.wide n Try.prog f args W R := fun _ _ _ _ _ h => callsIn_wide.2 h
  have hro : Fence.wide.round = none := rfl
  have hfn : ∀ f, Fence.wide.fn f := fun _ => trivial
  generalize Fence.wide = F at *
  clear hk hb
  refine callsIn_of_wp_marks Try.func120 rfl (hfn _) ?_ hro
  simp only [Try.ntmps120, List.size_toArray, List.length_cons, List.length_nil, Nat.reduceAdd, Nat.reduceSub, Array.replicate_succ, Array.replicate_zero, List.push_toArray, List.append_toArray, List.nil_append, List.cons_append]
  gi_wp2_with (gi_at_call 107; rw [fold16B k HK.out]; refine (conv _ _ _ _ _ (keys_any k _)).mono ?_; rintro e w2 ⟨rfl, rfl⟩)
  rw [HZ.out]
  have hzz : (allC (wds k) 0).toArray = (#[.int .u64 0, .int .u64 0, .int .u64 0, .int .u64 0, .int .u64 0, .int .u64 0, .int .u64 0, .int .u64 0, .int .u64 0, .int .u64 0, .int .u64 0, .int .u64 0, .int .u64 0, .int .u64 0, .int .u64 0, .int .u64 0, .int .u64 0, .int .u64 0, .int .u64 0, .int .u64 0, .int .u64 0, .int .u64 0, .int .u64 0, .int .u64 0, .int .u64 0, .int .u64 0, .int .u64 0, .int .u64 0, .int .u64 0, .int .u64 0, .int .u64 0, .int .u64 0] : Array Value) := rfl
  have hZZ := Lib.hid hzz
  clear hzz
  obtain ⟨WS, hWS⟩ : ∃ W : World, W = ((((w.alloc (.cells (cellsB k).toArray 23)).alloc (.cells (cellsB b).toArray 23)).alloc (.cells (cellsB zeroK).toArray 23)).alloc (.cells #[.int .u64 0, .int .u64 0, .int .u64 0, .int .u64 0, .int .u64 0, .int .u64 0, .int .u64 0, .int .u64 0, .int .u64 0, .int .u64 0, .int .u64 0, .int .u64 0, .int .u64 0, .int .u64 0, .int .u64 0, .int .u64 0, .int .u64 0, .int .u64 0, .int .u64 0, .int .u64 0, .int .u64 0, .int .u64 0, .int .u64 0, .int .u64 0, .int .u64 0, .int .u64 0, .int .u64 0, .int .u64 0, .int .u64 0, .int .u64 0, .int .u64 0, .int .u64 0] 195)).alloc (.cells (cellsB k).toArray 23) := ⟨_, rfl⟩
  rw [← hWS]
  rw [← hZZ.out] at hWS
  have sWS : WS.heap.size = w.heap.size + 1 + 1 + 1 + 1 + 1 := by rw [hWS]; simp
  have bB : Blk WS (w.heap.size + 1) 23 (cellsB b).toArray := by rw [hWS]; exact (((blk_b1 w _ _ _).alloc _).alloc _).alloc _
  have bR : Blk WS (w.heap.size + 1 + 1) 23 (cellsB zeroK).toArray := by rw [hWS]; exact ((blk_a2 w _ _ _ _).alloc _).alloc _
  have bA : Blk WS (w.heap.size + 1 + 1 + 1) 195 (allC (wds k) 0).toArray := by rw [hWS]; exact (blk_4 w _ _ _ _ _).alloc _
  have bK : Blk WS (w.heap.size + 1 + 1 + 1 + 1) 23 (cellsB k).toArray := by rw [hWS]; exact blk_5 w _ _ _ _ _ _
  have b0S : Below w.heap.size w WS := by rw [hWS]; exact alloc5_bel w _ _ _ _ _
  have HBK : Hid (∀ (p : W2) (u : UInt64) W', CallsIn F 5 Try.prog 147 #[.agg #[.int .u64 (p.1.toNat : Int), .int .u64 (p.2.toNat : Int)], .int .u64 (u.toNat : Int)] W' fun e w' => e = .returned (.agg #[.int .u64 ((bck u p).1.toNat : Int), .int .u64 ((bck u p).2.toNat : Int)]) ∧ Below W'.heap.size W' w') := fun p u W' => conv _ _ _ _ _ (back_any p u W')
  have HBL : Hid (∀ (p : W2) W', CallsIn F 5 Try.prog 109 #[.agg #[.int .u64 (p.1.toNat : Int), .int .u64 (p.2.toNat : Int)]] W' fun e w' => e = .returned (.agg (cellsB (blk p)).toArray) ∧ Below W'.heap.size W' w') := fun p W' => conv _ _ _ _ _ (block_any p W')
  have HWO : Hid (∀ W', CallsIn F 5 Try.prog 106 #[.agg (cellsB b).toArray] W' fun e w' => e = .returned (.agg #[.int .u64 ((wds b).1.toNat : Int), .int .u64 ((wds b).2.toNat : Int)]) ∧ Below W'.heap.size W' w') := fun W' => conv _ _ _ _ _ (wordsOf_any b W' HB.out)
  clear hkl hWS hZZ
  refine wpIn_range_box (xs := List.range 32) hro (by omega) (gf := 143) (lb := #[.pointer (some ⟨w.heap.size + 1 + 1 + 1 + 1, 0, none⟩)]) rfl (hfn _) (enters_of Try.func143 (by kernel_rfl) rfl)
    (keys1_in F 5 (w.heap.size + 1 + 1 + 1 + 1) hfn hro (by omega) conv (w.heap.size + 1 + 1 + 1 + 1) k HK.out WS bK (by omega)) KpM.trans (fun W l o o' _ h ho => KpM.put W l o o' h ho) (Below.refl _ _) (fun _ => rfl)
    (fun pre W => Blk W (w.heap.size + 1 + 1 + 1) 195 (allC (wds k) pre.length).toArray ∧ Blk W (w.heap.size + 1 + 1) 23 (cellsB zeroK).toArray ∧ Blk W (w.heap.size + 1) 23 (cellsB b).toArray ∧ Below w.heap.size w W)
    ?hI ⟨bA, bR, bB, b0S⟩ (fun x => { tmps := #[.agg (cellsB k).toArray, .agg (cellsB b).toArray, .pointer (some ⟨w.heap.size, 0, none⟩), .pointer (some ⟨w.heap.size + 1, 0, none⟩), .pointer (some ⟨w.heap.size + 1 + 1, 0, none⟩), .pointer (some ⟨w.heap.size + 1 + 1 + 1, 0, none⟩), .int .i64 (x : Int), .int .u64 ((ksS (wds k) x).2.toNat : Int), undef, undef,
      .agg (cellsB k).toArray, .func (.func 143) #[] #[.pointer (some ⟨w.heap.size + 1 + 1 + 1 + 1, 0, none⟩)], .int .i64 (x : Int), .int .u64 ((ksS (wds k) x).2.toNat : Int), undef, undef, undef, undef, undef, undef, undef, undef, undef, undef, undef, undef, undef, undef, undef, undef], defers := [] }) ?assign ?body ?done
  case hI =>
    rintro pre X Y row ⟨i1, i2, i3, i4⟩ hg hr
    exact ⟨(hg.block _ i1.lt (fun e => by have := hr _ e.symm; omega)).trans i1, (hg.block _ i2.lt (fun e => by have := hr _ e.symm; omega)).trans i2, (hg.block _ i3.lt (fun e => by have := hr _ e.symm; omega)).trans i3, i4.grown hg i4.size (fun g e => by have := hr g e; have := b0S.size; omega)⟩
  case assign =>
    intro l x W K hK
    unfold keyE
    gi_wp2
    exact hK
  case body =>
    rintro l pre x W ⟨i1, i2, i3, i4⟩ ⟨rest, hrest⟩
    have hx : x = pre.length ∧ pre.length < 32 := by
      have := congrArg (fun l => l[pre.length]?) hrest
      simp only [List.getElem?_append_right (Nat.le_refl _), Nat.sub_self, List.getElem?_cons_zero] at this
      rcases Nat.lt_or_ge pre.length 32 with h | h
      · rw [List.getElem?_range h] at this
        injection this with this
        exact ⟨this.symm, h⟩
      · rw [List.getElem?_eq_none (by simpa using h)] at this; cases this
    obtain ⟨hx, hl32⟩ := hx
    rw [← hx] at i1 hl32
    have c0 := i1.cell x
    have f0 := i1.frozen x
    simp only [List.getElem?_toArray, allC_get0 _ _ hl32] at c0
    have hxi : (x : Int) < 32 := by omega
    have HN : Hid ((pre ++ [x]).length = x + 1) := by unfold Hid; simp [hx]
    have HS := Lib.hid (allC_set (wds k) x hl32)
    have I1 := Lib.hid i1
    have I2 := Lib.hid i2
    have I3 := Lib.hid i3
    clear hrest i1 i2 i3 hx hl32
    gi_wp2_with fail
    have kf := (KeepsOthers.setCell W ⟨w.heap.size + 1 + 1 + 1, x, none⟩ (.int .u64 ((ksS (wds k) x).2.toNat : Int))).from WS.heap.size
    refine ⟨kf, ?_, ?_, ?_, ?_, ?_⟩
    · intro j cs t fr hj hc
      exact Below.heap_setCell _ ⟨w.heap.size + 1 + 1 + 1, x, none⟩ _ j (by simp; omega)
    · rw [HN.out, ← HS.out]
      simpa using I1.out.set_ x (.int .u64 ((ksS (wds k) x).2.toNat : Int))
    · exact I2.out.far (p := ⟨w.heap.size + 1 + 1 + 1, x, none⟩) (by simp) _
    · exact I3.out.far (p := ⟨w.heap.size + 1 + 1 + 1, x, none⟩) (by simp) _
    · exact i4.setCell (p := ⟨w.heap.size + 1 + 1 + 1, x, none⟩) (by simp; omega) _
  case done =>
    rintro D W hD ⟨i1, i2, i3, i4⟩ hK
    rw [List.length_range] at i1
    have hcb := i3.cell
    have I1 := Lib.hid i1
    have I2 := Lib.hid i2
    have hD2 : D < W.heap.size := (Array.getElem?_eq_some_iff.1 hK).1
    have HKD := Lib.hid hK
    have HD := Lib.hid hD
    have HWSs := Lib.hid sWS
    clear i1 i2 hK hD sWS bB bR bA bK b0S
    gi_wp2_with (gi_at_call 106; rw [fold16B b HB.out]; refine (HWO.out _).mono ?_; rintro e w3 ⟨rfl, hb3⟩)
    have hsz : W.heap.size ≤ w3.heap.size := hb3.size
    have b03 : Below w.heap.size w w3 := i4.trans (hb3.mono i4.size)
    have b04 : Below w.heap.size w (w3.alloc (.cells #[.int .u64 ((wds b).1.toNat : Int), .int .u64 ((wds b).2.toNat : Int)] 161)) := b03.alloc (by have := b03.size; omega) _
    have J1 : Blk (w3.alloc (.cells #[.int .u64 ((wds b).1.toNat : Int), .int .u64 ((wds b).2.toNat : Int)] 161)) w3.heap.size 161 #[.int .u64 ((wds b).1.toNat : Int), .int .u64 ((wds b).2.toNat : Int)] := Blk.new _ _ _
    have J2 := (I1.out.below' hb3).alloc (.cells #[.int .u64 ((wds b).1.toNat : Int), .int .u64 ((wds b).2.toNat : Int)] 161)
    have J3 := (I2.out.below' hb3).alloc (.cells #[.int .u64 ((wds b).1.toNat : Int), .int .u64 ((wds b).2.toNat : Int)] 161)
    have J4 : (w3.alloc (.cells #[.int .u64 ((wds b).1.toNat : Int), .int .u64 ((wds b).2.toNat : Int)] 161)).heap[D]? = some (.deferred (some [])) := (Below.heap_alloc _ _ _ (by omega)).trans ((hb3.block D hD2).trans HKD.out)
    have hpg : w.heap.size + 1 + 1 + 1 + 1 + 1 ≤ D ∧ D < w3.heap.size := by have := HD.out; have := HWSs.out; omega
    generalize w3.alloc (.cells #[.int .u64 ((wds b).1.toNat : Int), .int .u64 ((wds b).2.toNat : Int)] 161) = W4 at *
    generalize w3.heap.size = pg at *
    clear i3 i4 hcb hb3 hD2 HKD HD HWSs hsz b03 I1 I2
    gi_loopw [9] (fun vi wr => ∃ j : Nat, j ≤ 32 ∧ vi = .int .i64 ((j : Int) - 1) ∧ Blk wr pg 161 #[.int .u64 ((deW (wds k) (wds b) (32 - j)).1.toNat : Int), .int .u64 ((deW (wds k) (wds b) (32 - j)).2.toNat : Int)] ∧ Blk wr (w.heap.size + 1 + 1 + 1) 195 (allC (wds k) 32).toArray ∧ Blk wr (w.heap.size + 1 + 1) 23 (cellsB zeroK).toArray ∧ wr.heap[D]? = some (.deferred (some [])) ∧ Below w.heap.size w wr) (fun vi _ => (intOf vi + 1).toNat)
    case atStart => exact ⟨32, by omega, rfl, J1, J2, J3, J4, b04⟩
    case round =>
      obtain ⟨j', hi, rfl, i1, i2, i3, i4, hbel⟩ := hrel
      clear J1 J2 J3 J4 b04
      by_cases hlt : 0 < j'
      · obtain ⟨j, rfl⟩ : ∃ j, j' = j + 1 := ⟨j' - 1, by omega⟩
        rw [show ((j + 1 : Nat) : Int) - 1 = (j : Int) from by omega]
        have hii : (j : Int) < 32 := by omega
        have hjlt : j < 32 := by omega
        have HES : Hid (deW (wds k) (wds b) (32 - j) = bck (ksS (wds k) j).2 (deW (wds k) (wds b) (32 - (j + 1)))) := deW_step _ _ _ hjlt
        have ca := i2.cell j
        rw [List.getElem?_toArray, allC_get _ _ _ hjlt hjlt] at ca
        obtain ⟨p, hp⟩ : ∃ p, deW (wds k) (wds b) (32 - (j + 1)) = p := ⟨_, rfl⟩
        obtain ⟨u, hu⟩ : ∃ u, (ksS (wds k) j).2 = u := ⟨_, rfl⟩
        rw [hp, hu] at HES
        rw [hp] at i1
        rw [hu] at ca
        have c0 := i1.cell 0
        have c1 := i1.cell 1
        simp only [List.getElem?_toArray, List.getElem?_cons_zero, List.getElem?_cons_succ] at c0 c1
        have I1 := Lib.hid i1
        have I2 := Lib.hid i2
        have I3 := Lib.hid i3
        have I4 := Lib.hid i4
        have HPG := Lib.hid hpg
        clear hp hu hjlt i1 i2 i3 i4 hpg
        gi_wp2_with fail
        gi_region_with (gi_at_call 147; refine (HBK.out p u _).mono ?_; rintro e w4 ⟨rfl, hb4⟩; have hB4 := I1.out.drew.below' hb4; have f0 := hB4.frozen 0; have f1 := hB4.frozen 1; have g0 := hB4.cell 0; have g1 := hB4.cell 1; simp only [List.getElem?_toArray, List.getElem?_cons_zero, List.getElem?_cons_succ] at g0 g1; have HB4 := Lib.hid hB4; clear hB4)
        all_goals
          gi_wp2_with fail
          go_roundw
        all_goals first
          | exact ⟨j, by omega, rfl, by rw [HES.out]; simpa using (HB4.out.set_ 0 (.int .u64 ((bck u p).1.toNat : Int))).set_ 1 (.int .u64 ((bck u p).2.toNat : Int)),
              ((I2.out.drew.below' hb4).far (p := ⟨pg, 0, none⟩) (by simp; have := HPG.out; omega) _).far (p := ⟨pg, 1, none⟩) (by simp; have := HPG.out; omega) _,
              ((I3.out.drew.below' hb4).far (p := ⟨pg, 0, none⟩) (by simp; have := HPG.out; omega) _).far (p := ⟨pg, 1, none⟩) (by simp; have := HPG.out; omega) _,
              ((Below.heap_setCell _ ⟨pg, 1, none⟩ _ D (by simp; have := HPG.out; omega)).trans (Below.heap_setCell _ ⟨pg, 0, none⟩ _ D (by simp; have := HPG.out; omega))).trans ((hb4.block D (Array.getElem?_eq_some_iff.1 I4.out).1).trans I4.out),
              ((hbel.drew.trans (hb4.mono hbel.size)).setCell (p := ⟨pg, 0, none⟩) (by simp; have := HPG.out; omega) _).setCell (p := ⟨pg, 1, none⟩) (by simp; have := HPG.out; omega) _⟩
          | simp [intOf]
      · obtain rfl : j' = 0 := by omega
        have HE : Hid (decS k b = blk (deW (wds k) (wds b) 32)) := rfl
        rw [show 32 - 0 = 32 from rfl] at i1
        obtain ⟨p, hp⟩ : ∃ p, deW (wds k) (wds b) 32 = p := ⟨_, rfl⟩
        rw [hp] at i1 HE
        have c0 := i1.cell 0
        have c1 := i1.cell 1
        simp only [List.getElem?_toArray, List.getElem?_cons_zero, List.getElem?_cons_succ] at c0 c1
        have hl : (cellsB (blk p)).length = 16 := rfl
        have hall : (cellsB (blk p)).all (·.oneCell') = true := List.all_eq_true.2 (cellsB_one _)
        have I3 := Lib.hid i3
        clear hp i1 i2 i3
        gi_wp2_with (gi_at_call 109; refine (HBL.out p _).mono ?_; rintro e w5 ⟨rfl, hb5⟩; have hB5 := I3.out.below' hb5; have hr5 : (rowAt w5 (w.heap.size + 1 + 1)).size = 16 := by { rw [hB5.row]; rfl }; have hf5 := hB5.free; have HB5 := Lib.hid hB5; clear hB5)
        have hB6 := HB5.out.setRow (cellsB (blk p)).toArray
        have hDne : D ≠ w.heap.size + 1 + 1 := by omega
        have hK' : (w5.setRow (w.heap.size + 1 + 1) (cellsB (blk p)).toArray).heap[D]? = some (.deferred (some [])) := (setRow_other _ _ _ _ hDne).trans ((hb5.block D (Array.getElem?_eq_some_iff.1 i4).1).trans i4)
        have hB7 : Blk ((w5.setRow (w.heap.size + 1 + 1) (cellsB (blk p)).toArray).putObj D (.deferred none)) (w.heap.size + 1 + 1) 23 (cellsB (blk p)).toArray := (World.putObj_heap_other (by omega)).trans hB6
        have hbf : Below w.heap.size w (w5.setRow (w.heap.size + 1 + 1) (cellsB (blk p)).toArray) := below_setRow (hbel.trans (hb5.mono hbel.size)) (by omega) _
        refine ⟨by simp, .inl ⟨_, _, rfl, run_takeDeferred hK', ?_⟩⟩
        exact ⟨.agg (cellsB (blk p)).toArray, results_cell_row rfl _ _ (w.heap.size + 1 + 1) _ _ (0, 0) _ rfl hB7 under_key rfl (cellsB_size _ rfl), by rw [HE.out], hbf.trans (belowK_b (w := w) (Nat.le_refl _) _ D _ _ (by omega) hK' rfl rfl)⟩
end Go.Proofs.Ytinpiodfpnbllaa
