/-
  The round keys, as the iterator brings them.
-/
import Derived.Test.YtinpiodfpnbllaaSpeckWalks
import Derived.Test.YtinpiodfpnbllaaRangeBox
namespace Go.Proofs.Ytinpiodfpnbllaa
open Go.RowKit Go.Shelf
set_option linter.unusedVariables false
attribute [local go_sem] Oper.semAt_some

theorem round_nat (p : W2) (i : Nat) (hi : i < 32) (w : World) : Calls Try.prog 108 #[.agg #[.int .u64 (p.1.toNat : Int), .int .u64 (p.2.toNat : Int)], .int .u64 (i : Int)] w fun e w' => e = .returned (.agg #[.int .u64 ((rnd (UInt64.ofNat i) p).1.toNat : Int), .int .u64 ((rnd (UInt64.ofNat i) p).2.toNat : Int)]) ∧ Below w.heap.size w w' := by
  have e : ((UInt64.ofNat i).toNat : Int) = (i : Int) := by
    rw [UInt64.toNat_ofNat', Nat.mod_eq_of_lt (by omega)]
  have := round_any p (UInt64.ofNat i) w
  rw [e] at this
  exact this

/-- What a round keeps: cells from M on. -/
def KpM (M : Nat) (W W' : World) : Prop := ∀ k cs t fr, M ≤ k → W.heap[k]? = some (.cells cs t fr) → W'.heap[k]? = W.heap[k]?
theorem KpM.trans {M : Nat} {X Y Z : World} (h : KpM M X Y) (k : KpM M Y Z) : KpM M X Z := fun i cs t fr hi hx => by
  have h1 := h i cs t fr hi hx
  exact (k i cs t fr hi (h1.trans hx)).trans h1
theorem KpM.put {M : Nat} (W : World) (l : Nat) (o o' : Obj) (h : W.heap[l]? = some o) (ho : o.isCells = false) : KpM M W (W.putObj l o') := fun k cs t fr hk hx => by
  refine World.putObj_heap_other (fun e => ?_)
  subst e
  rw [h] at hx
  injection hx with hx
  rw [hx] at ho
  simp [Obj.isCells] at ho
theorem below_grown {w w' : World} (h : Below w.heap.size w w') : w.grownBy w' none := ⟨h.os, h.tape, h.output, h.size, fun k hk _ => h.block k hk⟩

theorem range_part (n i : Nat) (h : i < n) : ∃ rest, List.range n = List.range i ++ i :: rest := by
  obtain ⟨m, rfl⟩ : ∃ m, n = i + 1 + m := ⟨n - (i + 1), by omega⟩
  exact ⟨(List.range m).map (i + 1 + ·), by rw [List.range_add, List.range_succ]; simp⟩
/-- The key's number i, as the iterator hands it over. -/
def keyE (k : W2) (i : Nat) : Array Value := #[.int .i64 (i : Int), .int .u64 ((ksS k i).2.toNat : Int)]
set_option maxRecDepth 100000 in
set_option maxHeartbeats 2000000 in
theorem keys1_in (F : Fence) (n M : Nat) (hfn : ∀ f, F.fn f) (hro : F.round = none) (hn : 1 ≤ n)
    (conv : ∀ (f : FuncId) (args : Array Value) (W : World) (R : Ending → World → Prop) (n : Nat), Calls Try.prog f args W R → CallsIn F n Try.prog f args W R)
    (Bs : Nat) (k : List UInt8) (hk : k.length = 16) (w : World) (hB : Blk w Bs 23 (cellsB k).toArray) (hM : M ≤ w.heap.size) :
    Brings F n Try.prog 143 #[.pointer (some ⟨Bs, 0, none⟩)] (keyE (wds k)) (KpM M) (List.range 32) w := by
  intro l J W hW hJ hY h0
  have hBW : Blk W Bs 23 (cellsB k).toArray := hB.below hW hB.lt
  have hcell : ∀ j, W.cell? ⟨Bs, j, none⟩ = (cellsB k).toArray[j]? := fun j => hBW.cell j
  have hkl : (cellsB k).length = 16 := by rw [cellsB_length, hk]
  have HK := Lib.hid hk
  have HMW : Hid (M ≤ W.heap.size) := by have := hW.size; unfold Hid; omega
  have HYY := Lib.hid hY
  have HJJ := Lib.hid hJ
  have H0 := Lib.hid h0
  have CW : Hid (CallsIn F (n - 1) Try.prog 106 #[.agg (cellsB k).toArray] W fun e w' => e = .returned (.agg #[.int .u64 ((wds k).1.toNat : Int), .int .u64 ((wds k).2.toNat : Int)]) ∧ Below W.heap.size W w') := conv _ _ _ _ _ (wordsOf_any k W hk)
  have CR : Hid (∀ (p : W2) (i : Nat), i < 32 → ∀ W', CallsIn F (n - 1) Try.prog 108 #[.agg #[.int .u64 (p.1.toNat : Int), .int .u64 (p.2.toNat : Int)], .int .u64 (i : Int)] W' fun e w' => e = .returned (.agg #[.int .u64 ((rnd (UInt64.ofNat i) p).1.toNat : Int), .int .u64 ((rnd (UInt64.ofNat i) p).2.toNat : Int)]) ∧ Below W'.heap.size W' w') := fun p i hi W' => conv _ _ _ _ _ (round_nat p i hi W')
  clear hk hB hM hBW hY hJ h0 hW
  refine callsIn_of_wp Try.func143 rfl (hfn _) ?_ hro
  simp only [Try.ntmps143, List.size_toArray, List.length_cons, List.length_nil, Nat.reduceAdd, Nat.reduceSub, Array.replicate_succ, Array.replicate_zero, List.push_toArray, List.append_toArray, List.nil_append, List.cons_append]
  gi_wp2_with (gi_at_call 106; rw [fold16B k HK.out]; refine CW.out.mono ?_; rintro e w1 ⟨rfl, hb1⟩)
  have hs1 : M ≤ w1.heap.size := by have := HMW.out; have := hb1.size; omega
  have hsW : W.heap.size ≤ w1.heap.size := hb1.size
  gi_loopw [7] (fun vi wr => ∃ i : Nat, i ≤ 32 ∧ vi = .int .i64 (i : Int) ∧ J (List.range i) wr ∧ Blk wr w1.heap.size 161 #[.int .u64 ((ksS (wds k) i).1.toNat : Int), .int .u64 ((ksS (wds k) i).2.toNat : Int)]) (fun vi _ => 32 - (intOf vi).toNat)
  case atStart =>
    exact ⟨0, by omega, rfl, HJJ.out.more (HJJ.out _ _ _ none H0.out (below_grown hb1) (fun r e => by cases e)) _, Blk.new _ _ _⟩
  case round =>
    obtain ⟨i, hi, rfl, hJ, hB⟩ := hrel
    by_cases hlt : i < 32
    · have c0 := hB.cell 0
      have c1 := hB.cell 1
      simp only [List.getElem?_toArray, List.getElem?_cons_zero, List.getElem?_cons_succ] at c0 c1
      obtain ⟨fn, tmps, assign, body, hy, hR2⟩ := HYY.out _ i wr hJ (range_part 32 i hlt)
      have HR2 := Lib.hid hR2
      unfold keyE at hy
      have hii : (i : Int) < 32 := by omega
      have HRS : Hid (List.range (i + 1) = List.range i ++ [i]) := List.range_succ
      obtain ⟨p, hp⟩ : ∃ p, ksS (wds k) i = p := ⟨_, rfl⟩
      have HP : Hid (ksS (wds k) (i + 1) = rnd (UInt64.ofNat i) p) := by unfold Hid; rw [ksS, hp]
      rw [hp] at hy hB c0 c1
      have hx := u64_bd p.1
      have hy2 := u64_bd p.2
      clear hJ hR2 hp
      gi_wp2
      refine HR2.out.mono ?_
      rintro e W3 ⟨rfl, hJ3, hk3⟩
      have hB3 : Blk W3 w1.heap.size 161 #[.int .u64 (p.1.toNat : Int), .int .u64 (p.2.toNat : Int)] := (hk3 _ _ _ _ hs1 hB).trans hB
      have d0 := hB3.cell 0
      have d1 := hB3.cell 1
      simp only [List.getElem?_toArray, List.getElem?_cons_zero, List.getElem?_cons_succ] at d0 d1
      have HB3 := Lib.hid hB3
      have HJ3 := Lib.hid hJ3
      clear c0 c1 hy hB hJ3 hk3 hB3
      gi_wp2_with (gi_at_call 108; refine (CR.out p i hlt _).mono ?_; rintro e w4 ⟨rfl, hb4⟩; have hB4 := HB3.out.below' hb4; have f0 := hB4.frozen 0; have f1 := hB4.frozen 1; have g0 := hB4.cell 0; have g1 := hB4.cell 1; simp only [List.getElem?_toArray, List.getElem?_cons_zero, List.getElem?_cons_succ] at g0 g1; have HB4 := Lib.hid hB4; clear hB4)
      go_roundw
      case rel =>
        refine ⟨i + 1, by omega, by go_num, ?_, by rw [HP.out]; simpa using (HB4.out.set_ 0 (.int .u64 ((rnd (UInt64.ofNat i) p).1.toNat : Int))).set_ 1 (.int .u64 ((rnd (UInt64.ofNat i) p).2.toNat : Int))⟩
        rw [HRS.out]
        have j4 := HJJ.out _ _ _ none HJ3.out (below_grown hb4) (fun r e => by cases e)
        have gs : ∀ (X : World) (o : Nat) (v : Value), X.grownBy (X.setCell ⟨w1.heap.size, o, none⟩ v) (some w1.heap.size) := fun X o v => ⟨rfl, rfl, rfl, by simp [World.setCell], fun j hj hne => Below.heap_setCell X ⟨w1.heap.size, o, none⟩ v j (fun e => hne (by rw [e]))⟩
        exact HJJ.out _ _ _ _ (HJJ.out _ _ _ _ j4 (gs _ 0 _) (fun r e => by cases e; exact hsW)) (gs _ 1 _) (fun r e => by cases e; exact hsW)
      case measure => simp [intOf]; omega
    · obtain rfl : i = 32 := by omega
      gi_wp2
      go_end0
      exact ⟨⟨_, rfl⟩, hJ⟩
end Go.Proofs.Ytinpiodfpnbllaa
