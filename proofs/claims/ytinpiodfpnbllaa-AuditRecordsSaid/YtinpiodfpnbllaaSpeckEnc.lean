/-
  Encrypt: the rounds.
-/
import Derived.Test.YtinpiodfpnbllaaSpeckKeys
namespace Go.Proofs.Ytinpiodfpnbllaa
open Go.RowKit Go.Shelf
set_option linter.unusedVariables false
attribute [local go_sem] Oper.semAt_some run_storeCells_key

set_option maxHeartbeats 1000000 in
theorem keys_any (k : List UInt8) (w : World) : Calls Try.prog 107 #[.agg (cellsB k).toArray] w fun e w' => e = .returned (.func (.func 143) #[] #[.pointer (some ⟨w.heap.size, 0, none⟩)]) ∧ w' = w.alloc (.cells (cellsB k).toArray 23) := by
  go_enter Try.func107, Try.ntmps107
  go_wp2_with fail
  go_ret
  exact ⟨rfl, rfl⟩

set_option maxRecDepth 100000 in
set_option maxHeartbeats 2000000 in
theorem Encrypt_any (k b : List UInt8) (w : World) (hk : k.length = 16) (hb : b.length = 16) : Calls Try.prog 53 #[.agg (cellsB k).toArray, .agg (cellsB b).toArray] w fun e w' => e = .returned (.agg (cellsB (encS k b)).toArray) ∧ Below w.heap.size w w' := by
  have HK := Lib.hid hk
  have HB := Lib.hid hb
  have hkl : (cellsB k).length = 16 := by rw [cellsB_length, hk]
  have hbl : (cellsB b).length = 16 := by rw [cellsB_length, hb]
  have HZ := Lib.hid zero16
  refine (callsIn_wide (n := 6)).1 ?_
  have conv : ∀ (f : FuncId) (args : Array Value) (W : World) (R : Ending → World → Prop) (n : Nat), Calls Try.prog f args W R → CallsIn Fence.wide n Try.prog f args W R := fun _ _ _ _ _ h => callsIn_wide.2 h
  have hro : Fence.wide.round = none := rfl
  have hfn : ∀ f, Fence.wide.fn f := fun _ => trivial
  generalize Fence.wide = F at *
  clear hk hb
  refine callsIn_of_wp_marks Try.func53 rfl (hfn _) ?_ hro
  simp only [Try.ntmps53, List.size_toArray, List.length_cons, List.length_nil, Nat.reduceAdd, Nat.reduceSub, Array.replicate_succ, Array.replicate_zero, List.push_toArray, List.append_toArray, List.nil_append, List.cons_append]
  gi_wp2_with (first
    | (gi_at_call 106; rw [fold16B b HB.out, HZ.out]; refine (conv _ _ _ _ _ (wordsOf_any b _ HB.out)).mono ?_; rintro e w1 ⟨rfl, hb1⟩; have hck : ∀ j o, (w1.alloc o).cell? ⟨w.heap.size, j, none⟩ = (cellsB k).toArray[j]? := fun j o => (((blk_a0 w (cellsB k).toArray 23 _ _).below' hb1).alloc o).cell j; have hz : w.heap.size + 1 + 1 < w1.heap.size := by have := hb1.size; simp at this; omega)
    | (gi_at_call 107; rw [fold16B k HK.out]; refine (conv _ _ _ _ _ (keys_any k _)).mono ?_; rintro e w2 ⟨rfl, rfl⟩))
  have hB0 : Blk w1 (w.heap.size + 1 + 1) 23 (cellsB zeroK).toArray := (blk_a2 w _ _ (cellsB zeroK).toArray 23).below' hb1
  have hb01 : Below w.heap.size w w1 := (alloc3_bel w _ _ _).trans (hb1.mono (alloc3_bel w _ _ _).size)
  obtain ⟨WS, hWS⟩ : ∃ W : World, W = (w1.alloc (.cells #[.int .u64 ((wds b).1.toNat : Int), .int .u64 ((wds b).2.toNat : Int)] 161)).alloc (.cells (cellsB k).toArray 23) := ⟨_, rfl⟩
  have sWS : WS.heap.size = w1.heap.size + 1 + 1 := by rw [hWS]; simp
  have bP : Blk WS w1.heap.size 161 #[.int .u64 ((wds b).1.toNat : Int), .int .u64 ((wds b).2.toNat : Int)] := by rw [hWS]; exact blk_b0 _ _ _ _
  have bK : Blk WS (w1.heap.size + 1) 23 (cellsB k).toArray := by rw [hWS]; exact blk_b1 _ _ _ _
  have bR : Blk WS (w.heap.size + 1 + 1) 23 (cellsB zeroK).toArray := by rw [hWS]; exact (hB0.alloc _).alloc _
  have b0S : Below w.heap.size w WS := by rw [hWS]; exact hb01.trans ((alloc2_bel w1 _ _).mono hb01.size)
  rw [← hWS]
  have HRD : Hid (∀ (p : W2) (u : UInt64) W', CallsIn F 3 Try.prog 108 #[.agg #[.int .u64 (p.1.toNat : Int), .int .u64 (p.2.toNat : Int)], .int .u64 (u.toNat : Int)] W' fun e w' => e = .returned (.agg #[.int .u64 ((rnd u p).1.toNat : Int), .int .u64 ((rnd u p).2.toNat : Int)]) ∧ Below W'.heap.size W' w') := fun p u W' => conv _ _ _ _ _ (round_any p u W')
  have HBL : Hid (∀ (p : W2) W', CallsIn F 5 Try.prog 109 #[.agg #[.int .u64 (p.1.toNat : Int), .int .u64 (p.2.toNat : Int)]] W' fun e w' => e = .returned (.agg (cellsB (blk p)).toArray) ∧ Below W'.heap.size W' w') := fun p W' => conv _ _ _ _ _ (block_any p W')
  clear hck hkl hbl hWS hB0
  refine wpIn_range_box (xs := List.range 32) hro (by omega) (gf := 143) (lb := #[.pointer (some ⟨w1.heap.size + 1, 0, none⟩)]) rfl (hfn _) (enters_of Try.func143 (by kernel_rfl) rfl)
    (keys1_in F 5 (w1.heap.size + 1) hfn hro (by omega) conv (w1.heap.size + 1) k HK.out WS bK (by omega)) KpM.trans (fun W l o o' _ h ho => KpM.put W l o o' h ho) (Below.refl _ _) (fun _ => rfl)
    (fun pre W => Blk W w1.heap.size 161 #[.int .u64 ((enW (wds k) (wds b) pre.length).1.toNat : Int), .int .u64 ((enW (wds k) (wds b) pre.length).2.toNat : Int)] ∧ Blk W (w.heap.size + 1 + 1) 23 (cellsB zeroK).toArray ∧ Below w.heap.size w W)
    ?hI ⟨bP, bR, b0S⟩ (fun x => { tmps := #[.agg (cellsB k).toArray, .agg (cellsB b).toArray, .pointer (some ⟨w.heap.size, 0, none⟩), .pointer (some ⟨w.heap.size + 1, 0, none⟩), .pointer (some ⟨w.heap.size + 1 + 1, 0, none⟩), .pointer (some ⟨w1.heap.size, 0, none⟩), undef, .int .u64 ((ksS (wds k) x).2.toNat : Int), .agg (cellsB b).toArray,
      .agg #[.int .u64 ((wds b).1.toNat : Int), .int .u64 ((wds b).2.toNat : Int)], .agg (cellsB k).toArray, .func (.func 143) #[] #[.pointer (some ⟨w1.heap.size + 1, 0, none⟩)], .int .i64 (x : Int), .int .u64 ((ksS (wds k) x).2.toNat : Int), undef, undef, undef, undef, undef], defers := [] }) ?assign ?body ?done
  case hI =>
    rintro pre X Y row ⟨i1, i2, i3⟩ hg hr
    exact ⟨(hg.block _ i1.lt (fun e => by have := hr _ e.symm; omega)).trans i1, (hg.block _ i2.lt (fun e => by have := hr _ e.symm; omega)).trans i2, i3.grown hg i3.size (fun g e => by have := hr g e; have := b0S.size; omega)⟩
  case assign =>
    intro l x W K hK
    unfold keyE
    gi_wp2
    exact hK
  case body =>
    rintro l pre x W ⟨i1, i2, i3⟩ ⟨rest, hrest⟩
    have hx : x = pre.length := by
      have := congrArg (fun l => l[pre.length]?) hrest
      simp only [List.getElem?_append_right (Nat.le_refl _), Nat.sub_self, List.getElem?_cons_zero] at this
      rcases Nat.lt_or_ge pre.length 32 with h | h
      · rw [List.getElem?_range h] at this
        injection this with this
        exact this.symm
      · rw [List.getElem?_eq_none (by simpa using h)] at this; cases this
    obtain ⟨p, hp⟩ : ∃ p, enW (wds k) (wds b) pre.length = p := ⟨_, rfl⟩
    have HN : Hid (enW (wds k) (wds b) (pre ++ [x]).length = rnd (ksS (wds k) x).2 p) := by
      unfold Hid
      rw [List.length_append, show [x].length = 1 from rfl, enW, hp, hx]
    rw [hp] at i1
    have c0 := i1.cell 0
    have c1 := i1.cell 1
    simp only [List.getElem?_toArray, List.getElem?_cons_zero, List.getElem?_cons_succ] at c0 c1
    obtain ⟨u, hu⟩ : ∃ u, (ksS (wds k) x).2 = u := ⟨_, rfl⟩
    rw [hu] at HN ⊢
    have I1 := Lib.hid i1
    have I2 := Lib.hid i2
    have LT1 := Lib.hid i2.lt
    clear hp hx hu hrest i1 i2
    gi_wp2_with (gi_at_call 108; refine (CallsIn.inRound l (HRD.out p u _)).mono ?_; rintro e w4 ⟨rfl, hb4⟩; have hB4 := I1.out.below' hb4; have f0 := hB4.frozen 0; have f1 := hB4.frozen 1; have g0 := hB4.cell 0; have g1 := hB4.cell 1; simp only [List.getElem?_toArray, List.getElem?_cons_zero, List.getElem?_cons_succ] at g0 g1; have HB4 := Lib.hid hB4; clear hB4)
    have kf0 : KeepsFrom WS.heap.size W w4 := ⟨hb4.size, fun k o _ hk ho => (hb4.block k (Array.getElem?_eq_some_iff.1 hk).1).trans hk⟩
    have kf := (kf0.trans ((KeepsOthers.setCell w4 ⟨w1.heap.size, 0, none⟩ (.int .u64 ((rnd u p).1.toNat : Int))).from WS.heap.size)).trans ((KeepsOthers.setCell (w4.setCell ⟨w1.heap.size, 0, none⟩ (.int .u64 ((rnd u p).1.toNat : Int))) ⟨w1.heap.size, 1, none⟩ (.int .u64 ((rnd u p).2.toNat : Int))).from WS.heap.size)
    refine ⟨kf, ?_, ?_, ?_, ?_⟩
    · intro j cs t fr hj hc
      exact ((Below.heap_setCell _ ⟨w1.heap.size, 1, none⟩ _ j (by simp; omega)).trans (Below.heap_setCell _ ⟨w1.heap.size, 0, none⟩ _ j (by simp; omega))).trans (hb4.block j (Array.getElem?_eq_some_iff.1 hc).1)
    · rw [HN.out]
      simpa using (HB4.out.set_ 0 (.int .u64 ((rnd u p).1.toNat : Int))).set_ 1 (.int .u64 ((rnd u p).2.toNat : Int))
    · exact ((I2.out.below' hb4).far (p := ⟨w1.heap.size, 0, none⟩) (by simp; omega) _).far (p := ⟨w1.heap.size, 1, none⟩) (by simp; omega) _
    · exact ((i3.trans (hb4.mono i3.size)).setCell (p := ⟨w1.heap.size, 0, none⟩) (by simp; omega) _).setCell (p := ⟨w1.heap.size, 1, none⟩) (by simp; omega) _
  case done =>
    rintro D W hD ⟨i1, i2, i3⟩ hK
    rw [List.length_range] at i1
    have HE : Hid (encS k b = blk (enW (wds k) (wds b) 32)) := rfl
    obtain ⟨p, hp⟩ : ∃ p, enW (wds k) (wds b) 32 = p := ⟨_, rfl⟩
    rw [hp] at i1 HE
    have c0 := i1.cell 0
    have c1 := i1.cell 1
    simp only [List.getElem?_toArray, List.getElem?_cons_zero, List.getElem?_cons_succ] at c0 c1
    have hl : (cellsB (blk p)).length = 16 := rfl
    have hall : (cellsB (blk p)).all (·.oneCell') = true := List.all_eq_true.2 (cellsB_one _)
    have I2 := Lib.hid i2
    clear hp i1 i2
    gi_wp2_with (gi_at_call 109; refine (HBL.out p _).mono ?_; rintro e w5 ⟨rfl, hb5⟩; have hB5 := I2.out.below' hb5; have hr5 : (rowAt w5 (w.heap.size + 1 + 1)).size = 16 := by { rw [hB5.row]; rfl }; have hf5 := hB5.free; have HB5 := Lib.hid hB5; clear hB5)
    have hD2 : D < W.heap.size := (Array.getElem?_eq_some_iff.1 hK).1
    have hB6 := HB5.out.setRow (cellsB (blk p)).toArray
    have hDne : D ≠ w.heap.size + 1 + 1 := by omega
    have hK' : (w5.setRow (w.heap.size + 1 + 1) (cellsB (blk p)).toArray).heap[D]? = some (.deferred (some [])) := (setRow_other _ _ _ _ hDne).trans ((hb5.block D hD2).trans hK)
    have hB7 : Blk ((w5.setRow (w.heap.size + 1 + 1) (cellsB (blk p)).toArray).putObj D (.deferred none)) (w.heap.size + 1 + 1) 23 (cellsB (blk p)).toArray := (World.putObj_heap_other (by omega)).trans hB6
    have hbel : Below w.heap.size w (w5.setRow (w.heap.size + 1 + 1) (cellsB (blk p)).toArray) := below_setRow (i3.trans (hb5.mono i3.size)) (by omega) _
    refine ⟨by simp, .inl ⟨_, _, rfl, run_takeDeferred hK', ?_⟩⟩
    exact ⟨.agg (cellsB (blk p)).toArray, results_cell_row rfl _ _ (w.heap.size + 1 + 1) _ _ (0, 0) _ rfl hB7 under_key rfl (cellsB_size _ rfl), by rw [HE.out], hbel.trans (belowK_b (w := w) (Nat.le_refl _) _ D _ _ (by have := b0S.size; omega) hK' rfl rfl)⟩
end Go.Proofs.Ytinpiodfpnbllaa
