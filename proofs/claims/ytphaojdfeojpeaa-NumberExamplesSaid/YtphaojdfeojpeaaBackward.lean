/-
  slices.Backward over a number: its contract.
-/
import Derived.RangeFuncNested
import Derived.RangeFuncBound
import Derived.RangeFuncCalls
import Derived.RangeFuncLeaves
import Derived.RangeFuncBox
import Derived.Shelf.Abstract
import Derived.Shelf.RegionOpen
import Derived.OwnWalkIn
import Derived.TacticsInMore
import Derived.LoopNIn
import Derived.LoopIn
import Derived.Test.YtphaojdfeojpeaaNatWalks2
namespace Go.Proofs.Ytphaojdfeojpeaa
open Go.RowKit Go.Shelf
set_option linter.unusedVariables false
attribute [local go_sem] Oper.semAt_some

/-- The indexes that have come of n, from the end, when k rounds are over. -/
def backI (n k : Nat) : List Nat := (List.range k).map fun j => n - 1 - j
theorem backI_succ (n k : Nat) : backI n (k + 1) = backI n k ++ [n - 1 - k] := by simp [backI, List.range_succ]
theorem backI_length (n k : Nat) : (backI n k).length = k := by simp [backI]
theorem backI_mem {n k j : Nat} (h1 : n - k ≤ j) (h2 : j < n) (hk : k ≤ n) : j ∈ backI n k := List.mem_map.2 ⟨n - 1 - j, List.mem_range.2 (by omega), by omega⟩
theorem map_length_of {α : Type} {f : α → Nat} {pre : List α} {n k : Nat} (h : pre.map f = backI n k) : pre.length = k := by
  have := congrArg List.length h
  simpa [backI_length] using this

/-- What a round that goes on keeps: what lay below block n, and block g. -/
def KB (n g : Nat) (W W' : World) : Prop := Below n W W' ∧ W'.heap[g]? = W.heap[g]?
theorem KB.trans {n g : Nat} {A B C : World} (h : KB n g A B) (k : KB n g B C) : KB n g A C := ⟨h.1.trans k.1, k.2.trans h.2⟩
theorem KB.put {n g : Nat} {w : World} (hn : n ≤ w.heap.size) (hg : g < w.heap.size) (W : World) (l : Nat) (o o' : Obj) (hl : w.heap.size ≤ l) (h : W.heap[l]? = some o) (h1 : o.isCells = false) (h2 : o.isWalk = false) : KB n g W (W.putObj l o') :=
  ⟨belowK_b hn W l o o' hl h h1 h2, (belowK_b (n₀ := w.heap.size) (Nat.le_refl _) W l o o' hl h h1 h2).block g hg⟩

set_option maxRecDepth 100000 in
set_option maxHeartbeats 2000000 in
theorem back1_in (F : Fence) (n : Nat) (h7 : F.fn 118) (hro : F.round = none) (hn : 1 ≤ n) (l Bs : Nat) (w0 : World) (A : Option Addr) (c : Nat) (zs : List Nat) (hR : NR w0 A c zs) (J Jx : List (Fin zs.length) → World → Prop)
    (hY : ∀ pre (x : Fin zs.length) W, J pre W → pre.length < zs.length → YieldAt F (n - 1) Try.prog l #[.int .i64 (x.1 : Int), .int .u32 (dg zs x.1 : Int)] W fun e W' =>
      (e = .returned (.bool true) ∧ J (pre ++ [x]) W' ∧ KB w0.heap.size Bs W W') ∨ (e = .returned (.bool false) ∧ Jx (pre ++ [x]) W'))
    (W : World) (hW : Below w0.heap.size w0 W) (hBs : W.cell? ⟨Bs, 0, none⟩ = some (.slice A zs.length c)) (h0 : J [] W) :
    CallsIn F n Try.prog 118 #[.func (.yield l) #[] #[], .pointer (some ⟨Bs, 0, none⟩)] W fun e W' => (∃ v, e = .returned v) ∧
      ((∃ ys, ys.map Fin.val = backI zs.length zs.length ∧ J ys W') ∨ (∃ pre, (∃ k, k ≤ zs.length ∧ pre.map Fin.val = backI zs.length k) ∧ Jx pre W')) := by
  have hlen : (zs.length : Int) ≤ 35184372088832 := int_le_of hR.len
  refine callsIn_of_wp Try.func118 rfl h7 ?_ hro
  simp only [Try.ntmps118, List.size_toArray, List.length_cons, List.length_nil, Nat.reduceAdd, Nat.reduceSub, Array.replicate_succ, Array.replicate_zero, List.push_toArray, List.append_toArray, List.nil_append, List.cons_append]
  gi_wp2
  gi_loopw [3] (fun i wr => ∃ (k : Nat) (pre : List (Fin zs.length)), k ≤ zs.length ∧ i = .int .i64 ((zs.length : Int) - 1 - k) ∧ Hid (pre.map Fin.val = backI zs.length k) ∧ J pre wr ∧ Below w0.heap.size w0 wr ∧ wr.cell? ⟨Bs, 0, none⟩ = some (.slice A zs.length c))
    (fun i _ => (intOf i + 1).toNat)
  case atStart => exact ⟨0, [], Nat.zero_le _, by simp, rfl, h0, hW, hBs⟩
  case round =>
    obtain ⟨k, pre, hk, rfl, HP, hJs, hnx, hbs⟩ := hrel
    by_cases hlt : k < zs.length
    · obtain ⟨b, off, rfl, hb, hc⟩ := hR.at_ (i := zs.length - 1 - k) (by omega)
      have hcx : wr.cell? ⟨b, off + (zs.length - 1 - k), none⟩ = some (.int .u32 (dg zs (zs.length - 1 - k) : Nat)) := (hnx.cell (p := ⟨b, _, none⟩) hb).trans hc
      obtain ⟨fn, tmps, assign, body, hy, hR2⟩ := hY _ ⟨zs.length - 1 - k, by omega⟩ wr hJs (by rw [map_length_of HP.out]; exact hlt)
      dsimp only at hy
      have e1 : ((zs.length - 1 - k : Nat) : Int) = (zs.length : Int) - 1 - k := by omega
      rw [e1] at hy
      clear e1 hc
      gi_wp2
      refine hR2.mono ?_
      rintro e W3 (⟨rfl, hJ3, hk3⟩ | ⟨rfl, hJx3⟩)
      · have hb3 := (World.cell?_of_block (a := ⟨Bs, 0, none⟩) hk3.2).trans hbs
        gi_wp2
        go_roundw
        case rel => exact ⟨k + 1, _, by omega, by go_num, by have := HP.out; simp [Hid, backI_succ, this], hJ3, hnx.trans hk3.1, hb3⟩
        case measure => simp [intOf]; omega
      · gi_wp2
        refine bodyPost_ret (results_none rfl _ _ _) rfl ?_
        exact ⟨⟨_, rfl⟩, .inr ⟨_, ⟨k + 1, by omega, by have := HP.out; simp [backI_succ, this]⟩, hJx3⟩⟩
    · obtain rfl : k = zs.length := by omega
      gi_wp2
      go_end0
      exact ⟨⟨_, rfl⟩, .inl ⟨_, HP.out, hJs⟩⟩
set_option maxHeartbeats 1000000 in
theorem back_in (F : Fence) (n : Nat) (h5 : F.fn 106) (hro : F.round = none) (a : Option Addr) (len cap : Nat) (w : World) :
    CallsIn F n Try.prog 106 #[.slice a len cap] w fun e w' => e = .returned (.func (.func 118) #[] #[.pointer (some ⟨w.heap.size, 0, none⟩)]) ∧ w' = w.alloc (.cells #[.slice a len cap] 41) := by
  refine callsIn_of_wp Try.func106 rfl h5 ?_ hro
  simp only [Try.ntmps106, List.size_toArray, List.length_cons, List.length_nil, Nat.reduceAdd, Nat.reduceSub, Array.replicate_succ, Array.replicate_zero, List.push_toArray, List.append_toArray, List.nil_append, List.cons_append]
  gi_wp2
  go_ret
  exact ⟨rfl, rfl⟩
theorem back_stops (F : Fence) (n : Nat) (h7 : F.fn 118) (hro : F.round = none) (hn : 1 ≤ n) (Bs : Nat) (w0 : World) (A : Option Addr) (c : Nat) (zs : List Nat) (hR : NR w0 A c zs) (w : World) (hw : Below w0.heap.size w0 w) (hBs : Bs < w.heap.size)
    (hc : w.cell? ⟨Bs, 0, none⟩ = some (.slice A zs.length c)) :
    SeqStopsK F n Try.prog 118 #[.pointer (some ⟨Bs, 0, none⟩)] (fun x : Fin zs.length => #[Value.int .i64 (x.1 : Int), Value.int .u32 (dg zs x.1 : Int)]) (KB w0.heap.size Bs) (fun ys => ys.map Fin.val = backI zs.length zs.length)
      (fun pre => ∃ k, k ≤ zs.length ∧ pre.map Fin.val = backI zs.length k) zs.length w := fun l J Jx W hW _ _ hY h0 =>
  back1_in F n h7 hro hn l Bs w0 A c zs hR J Jx hY W (hw.trans (hW.mono hw.size)) ((hW.cell (p := ⟨Bs, 0, none⟩) hBs).trans hc) h0
end Go.Proofs.Ytphaojdfeojpeaa
