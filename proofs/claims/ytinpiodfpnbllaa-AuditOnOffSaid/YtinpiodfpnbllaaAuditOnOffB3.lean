/-
  Lemmas and contracts, joined: part 3.
-/
import Derived.Lib.AppendZeros
import Derived.Great.BuildSlice
import Derived.Laws.Tables
import Derived.Shelf.RegionOpenPlain
import Derived.Shelf.GgSortFunc.RowK
import Derived.Sort.WalkB12
import Derived.Lib.SlicesMore
import Derived.Lib.OwnBridge
import Derived.Deep.LoopGhost
import Derived.Laws.Cells
import Derived.Test.YtinpiodfpnbllaaAuditOnOffB2
set_option linter.unusedSimpArgs false
set_option linter.unusedVariables false
set_option linter.unnecessarySimpa false
/- The reference's Derive, Number. -/
namespace Go.Proofs.Ytinpiodfpnbllaa
open Go.RowKit
set_option linter.unusedVariables false
attribute [local go_sem] run_storeCells_key

theorem refTag_zero (t : UInt8) (n : UInt64) (w : World) : Calls Try.prog 114 #[.int .u8 (t.toNat : Int), .int .u64 0, .int .u64 (n.toNat : Int)] w fun e w' => e = .returned (.agg (cellsB (tagS t 0 n)).toArray) ∧ Below w.heap.size w w' := refTag_any t 0 n w (by decide)
set_option maxHeartbeats 1000000 in
theorem refDerive_any (k : List UInt8) (t : UInt8) (n : UInt64) (w : World) (hk : k.length = 16) : Calls Try.prog 57 #[.agg (cellsB k).toArray, .int .u8 (t.toNat : Int), .int .u64 (n.toNat : Int)] w fun e w' => e = .returned (.agg (cellsB (derS k t n)).toArray) ∧ Below w.heap.size w w' := by
  have HK := Lib.hid hk
  have HZ := Lib.hid zero16
  have hkl : (cellsB k).length = 16 := by rw [cellsB_length, hk]
  have HE : Hid (derS k t n = encS k (tagS t 0 n)) := rfl
  have hl : (cellsB (encS k (tagS t 0 n))).length = 16 := rfl
  have hall := all16 (encS k (tagS t 0 n))
  clear hk
  go_enter Try.func57, Try.ntmps57
  go_wp2_with fail
  rw [HZ.out]
  go_region_with (first
    | (go_at_call 114; refine (refTag_zero t n _).mono ?_; rintro e w1 ⟨rfl, hb1⟩; have hck : ∀ j, w1.cell? ⟨w.heap.size, j, none⟩ = (cellsB k).toArray[j]? := fun j => ((blk_b0 w (cellsB k).toArray 23 _).drew.below' hb1).cell j)
    | (go_at_call 56; rw [fold16B k HK.out]; refine (refEncrypt_any k (tagS t 0 n) _ HK.out rfl).mono ?_; rintro e w2 ⟨rfl, hb2⟩; have hB2 := ((blk_b1 w (.cells (cellsB k).toArray 23) (cellsB zeroK).toArray 23).drew.below' hb1).below' hb2; have hr2 : (rowAt w2 (w.heap.size + 1)).size = 16 := by { rw [hB2.row]; rfl }; have hf2 := hB2.free; have HB2 := Lib.hid hB2; clear hB2))
  all_goals
    go_wp2_with fail
    exact bodyPost_ret (results_cell_row rfl _ _ (w.heap.size + 1) _ _ (0, 0) _ rfl (HB2.out.setRow (cellsB (encS k (tagS t 0 n))).toArray) under_key rfl (cellsB_size _ rfl)) rfl ⟨by rw [HE.out], below_setRow (((alloc2_bel w _ _).drew.trans (hb1.mono (alloc2_bel w _ _).size)).trans (hb2.mono (Nat.le_trans (alloc2_bel w _ _).size hb1.size))) (by omega) _⟩

end Go.Proofs.Ytinpiodfpnbllaa

/- The reference's portions. -/
namespace Go.Proofs.Ytinpiodfpnbllaa
open Go.RowKit
set_option linter.unusedVariables false
attribute [local go_sem] run_storeCells_key

/-- Where a cut 's[n:]' of bytes leads. -/
def dropP (A : Option Addr) (n c : Nat) : Option Addr := if c = n then A else A.map fun x => x.add n
theorem slice_bytes_from (W : World) (A : Option Addr) (m c n : Nat) (h : n ≤ m) :
    (Instr.slice 24 (.slice A m c) (some (.int .i64 (n : Int))) none none).run Try.prog W = .ok (.slice (dropP A n c) (m - n) (c - n)) W := by
  have e : Try.prog.elem 24 = 5 := by kernel_rfl
  rw [run_slice_l (P := Try.prog) (w := W) 24 A m c (by rw [e]; exact Try.underlying24) .i64 n (by omega) (by omega), e, Try.sizeOf5 W]
  simp [Result.andThen, sliced, dropP]
theorem BR.drop {w : World} {A : Option Addr} {c : Nat} {l : List UInt8} (h : BR w A c l) (n : Nat) (hn : n ≤ l.length) : BR w (dropP A n c) (c - n) (l.drop n) := by
  have h1 := Rd.le h
  have h2 := Rd.cap h
  have h3 := Rd.len h
  refine ⟨⟨by rw [cellsB_length, Nat.mul_one], by rw [List.length_drop]; omega, by omega, by rw [List.length_drop]; omega⟩, fun hne => ?_⟩
  rw [List.length_drop] at hne
  obtain ⟨b, off, e, hb, hc⟩ := h.2 (by omega)
  refine ⟨b, off + n, by rw [dropP, if_neg (by omega), e]; simp [Addr.add], hb, fun j v hv => ?_⟩
  rw [Nat.add_assoc]
  refine hc (n + j) v ?_
  rw [← hv]
  simp [cellsB, List.getElem?_drop]

theorem portions_any (A : Option Addr) (c L : Nat) (w : World) (hL : (L : Int) ≤ 140737488351232) : Calls Try.prog 111 #[.slice A L c] w fun e w' => e = .returned (.int .i64 (((L + 15) / 16 : Nat) : Int)) ∧ w = w' := by
  go_enter Try.func111, Try.ntmps111
  go_wp2_with fail
  go_ret
  exact ⟨by simp, rfl⟩

set_option maxHeartbeats 1000000 in
set_option maxRecDepth 100000 in
theorem portion_any (A : Option Addr) (c : Nat) (b : List UInt8) (i : Nat) (w : World) {L : Nat} (hL : b.length = L) (h : BR w A c b) (hi : 16 * i ≤ L) :
    Calls Try.prog 113 #[.slice A L c, .int .i64 (i : Int)] w fun e w' => e = .returned (.agg (cellsB (padK (b.drop (16 * i)))).toArray) ∧ Below w.heap.size w w' := by
  have hl0 : (L : Int) ≤ 140737488351232 := by have := h.len; omega
  have HZ := Lib.hid zero16
  have hi0 : (i : Int) * 16 ≤ 140737488351232 := by omega
  have hi1 : 16 * (i : Int) ≤ 140737488351232 := by omega
  have hi2 : (i : Int) ≤ 140737488351232 := by omega
  have hsl : ∀ W, (Instr.slice 24 (.slice A L c) (some (.int .i64 (16 * (i : Int)))) none none).run Try.prog W = .ok (.slice (dropP A (16 * i) c) (L - 16 * i) (c - 16 * i)) W := fun W => by
    have := slice_bytes_from W A L c (16 * i) hi
    rw [Int.natCast_mul] at this
    exact this
  have H := Lib.hid (h.drop (16 * i) (by omega))
  have HN : Hid ((b.drop (16 * i)).length = L - 16 * i) := by unfold Hid; rw [List.length_drop, hL]
  have hl : (cellsB (padK (b.drop (16 * i)))).length = 16 := by rw [cellsB_length]; rfl
  have hall := all16 (padK (b.drop (16 * i)))
  obtain ⟨d, hd⟩ : ∃ d, b.drop (16 * i) = d := ⟨_, rfl⟩
  rw [hd] at H HN hl hall ⊢
  clear h hL hi hd
  go_enter Try.func113, Try.ntmps113
  go_wp2_with (go_at_call 145; refine (refKey_any _ _ d _ HN.out (H.out.below (alloc_bel _ _))).mono ?_; rintro e w1 ⟨rfl, hb1⟩; rw [HZ.out] at hb1; have hB1 := (Blk.new w 23 (cellsB zeroK).toArray).below' hb1; have hr1 : (rowAt w1 w.heap.size).size = 16 := by { rw [hB1.row]; rfl }; have hf1 := hB1.free; have HB1 := Lib.hid hB1; clear hB1)
  exact bodyPost_ret (results_cell_row rfl _ _ w.heap.size _ _ (0, 0) _ rfl (HB1.out.setRow (cellsB (padK d)).toArray) under_key rfl (cellsB_size _ (by simpa [cellsB] using hl))) rfl ⟨rfl, below_setRow ((alloc_bel w _).trans (hb1.mono (alloc_bel w (.cells (cellsB zeroK).toArray 23)).size)) (Nat.le_refl _) _⟩
end Go.Proofs.Ytinpiodfpnbllaa

/- Where a list of leaves is parted, in plain words. -/
namespace Go.Proofs.Ytinpiodfpnbllaa
set_option linter.unusedVariables false

/-- The greatest power of 2 below n, for n from 2 on. -/
def splitS (n : Nat) : Nat := 2 ^ Nat.log2 (n - 1)
theorem splitS_pos (n : Nat) : 1 ≤ splitS n := Nat.two_pow_pos _
theorem splitS_lt {n : Nat} (h : 2 ≤ n) : splitS n < n := by
  have := Nat.log2_self_le (n := n - 1) (by omega)
  unfold splitS
  omega
theorem splitS_ge {n : Nat} (h : 2 ≤ n) : n ≤ 2 * splitS n := by
  have := Nat.lt_log2_self (n := n - 1)
  unfold splitS
  rw [Nat.pow_succ] at this
  omega
theorem splitS_of {n e : Nat} (h1 : 2 ^ e < n) (h2 : n ≤ 2 * 2 ^ e) : splitS n = 2 ^ e := by
  have a1 := splitS_lt (n := n) (by have := Nat.two_pow_pos e; omega)
  have a2 := splitS_ge (n := n) (by have := Nat.two_pow_pos e; omega)
  unfold splitS at *
  generalize Nat.log2 (n - 1) = f at *
  rcases Nat.lt_trichotomy e f with h | h | h
  · have := Nat.pow_le_pow_right (show 1 ≤ 2 by omega) (show e + 1 ≤ f from h)
    rw [Nat.pow_succ] at this
    omega
  · rw [h]
  · have := Nat.pow_le_pow_right (show 1 ≤ 2 by omega) (show f + 1 ≤ e from h)
    rw [Nat.pow_succ] at this
    omega
end Go.Proofs.Ytinpiodfpnbllaa

/- What follows a text before it is digested, in plain words. -/
namespace Go.Proofs.Ytinpiodfpnbllaa
set_option linter.unusedVariables false

/-- What follows n bytes before they are digested: the zeros between. -/
def padZ (n : Nat) : Nat := (23 - n % 16) % 16
def padB (b : List UInt8) : List UInt8 := b ++ (128 :: (List.replicate (padZ b.length) 0 ++ by8 (UInt64.ofNat b.length)))
theorem padB_length (b : List UInt8) : (padB b).length = b.length + 9 + padZ b.length := by simp [padB, by8_length]; omega
def padTail (n : Nat) : List UInt8 := 128 :: (List.replicate (padZ n) 0 ++ by8 (UInt64.ofNat n))
theorem padTail_length (n : Nat) : (padTail n).length = 9 + padZ n := by simp [padTail, by8_length]; omega
theorem padB_tail (b : List UInt8) {n : Nat} (h : b.length = n) : padB b = b ++ padTail n := by rw [padB, padTail, h]
def padJ (j : Nat) : List UInt8 := 128 :: List.replicate j 0
theorem padJ_length (j : Nat) : (padJ j).length = j + 1 := by simp [padJ]
theorem padJ_succ (j : Nat) : padJ (j + 1) = padJ j ++ [0] := by simp [padJ, List.replicate_succ']
end Go.Proofs.Ytinpiodfpnbllaa

/- Digests and trees in plain words. -/
namespace Go.Proofs.Ytinpiodfpnbllaa
set_option linter.unusedVariables false

def salt : List UInt8 := List.replicate 16 90
def dgStep (all s : List UInt8) (i : Nat) : List UInt8 := xorS (encS (padK (all.drop (16 * i))) s) s
def dgN (all : List UInt8) (i : Nat) : List UInt8 := (List.range i).foldl (dgStep all) salt
/-- The digest of some bytes. -/
def digS (b : List UInt8) : List UInt8 := dgN (padB b) ((padB b).length / 16)
theorem dgN_zero (all : List UInt8) : dgN all 0 = salt := rfl
theorem dgN_succ (all : List UInt8) (i : Nat) : dgN all (i + 1) = dgStep all (dgN all i) i := by simp [dgN, List.range_succ]
theorem dgStep_length (all s : List UInt8) (i : Nat) : (dgStep all s i).length = 16 := xorS_length _ _
theorem dgN_length (all : List UInt8) (i : Nat) : (dgN all i).length = 16 := by
  cases i with
  | zero => rfl
  | succ i => rw [dgN_succ]; exact dgStep_length _ _ _
theorem digS_length (b : List UInt8) : (digS b).length = 16 := dgN_length _ _
theorem padB_mod (b : List UInt8) : (padB b).length % 16 = 0 := by rw [padB_length, padZ]; omega
theorem padB_parts (b : List UInt8) : 16 * ((padB b).length / 16) = (padB b).length := by have := padB_mod b; omega

def leafT (k : List UInt8) : List UInt8 := 0 :: k
def nodeT (a b : List UInt8) : List UInt8 := 1 :: (a ++ b)
def rootS (l : List (List UInt8)) : List UInt8 :=
  if h0 : l.length = 0 then digS []
  else if h1 : l.length = 1 then digS (leafT (l.headD []))
  else
    have := splitS_lt (n := l.length) (by omega)
    have := splitS_pos l.length
    digS (nodeT (rootS (l.take (splitS l.length))) (rootS (l.drop (splitS l.length))))
termination_by l.length
decreasing_by all_goals (simp only [List.length_take, List.length_drop]; omega)

def textsS (l : List (List UInt8)) : List (List UInt8) :=
  if h0 : l.length = 0 then [[]]
  else if h1 : l.length = 1 then [leafT (l.headD [])]
  else
    have := splitS_lt (n := l.length) (by omega)
    have := splitS_pos l.length
    textsS (l.take (splitS l.length)) ++ (textsS (l.drop (splitS l.length)) ++ [nodeT (rootS (l.take (splitS l.length))) (rootS (l.drop (splitS l.length)))])
termination_by l.length
decreasing_by all_goals (simp only [List.length_take, List.length_drop]; omega)

def pathS (l : List (List UInt8)) (i : Nat) : List (List UInt8) :=
  if h1 : l.length ≤ 1 then []
  else
    have := splitS_lt (n := l.length) (by omega)
    have := splitS_pos l.length
    if i < splitS l.length then pathS (l.take (splitS l.length)) i ++ [rootS (l.drop (splitS l.length))]
    else pathS (l.drop (splitS l.length)) (i - splitS l.length) ++ [rootS (l.take (splitS l.length))]
termination_by l.length
decreasing_by all_goals (simp only [List.length_take, List.length_drop]; omega)

def partS (l : List (List UInt8)) (m : Nat) (whole : Bool) : List (List UInt8) :=
  if h1 : l.length ≤ 1 ∨ m = l.length then (if whole then [] else [rootS l])
  else
    have := splitS_lt (n := l.length) (by omega)
    have := splitS_pos l.length
    if m ≤ splitS l.length then partS (l.take (splitS l.length)) m whole ++ [rootS (l.drop (splitS l.length))]
    else partS (l.drop (splitS l.length)) (m - splitS l.length) false ++ [rootS (l.take (splitS l.length))]
termination_by l.length
decreasing_by all_goals (simp only [List.length_take, List.length_drop]; omega)

theorem rootS_length (l : List (List UInt8)) : (rootS l).length = 16 := by
  rw [rootS]
  split
  · exact digS_length _
  · split <;> exact digS_length _
theorem rootS_nil : rootS [] = digS [] := by rw [rootS]; rfl
theorem rootS_one (k : List UInt8) : rootS [k] = digS (leafT k) := by rw [rootS]; rfl
theorem rootS_node {l : List (List UInt8)} (h : 2 ≤ l.length) : rootS l = digS (nodeT (rootS (l.take (splitS l.length))) (rootS (l.drop (splitS l.length)))) := by
  rw [rootS, dif_neg (by omega), dif_neg (by omega)]
theorem textsS_nil : textsS [] = [[]] := by rw [textsS]; rfl
theorem textsS_one (k : List UInt8) : textsS [k] = [leafT k] := by rw [textsS]; rfl
theorem textsS_node {l : List (List UInt8)} (h : 2 ≤ l.length) : textsS l = textsS (l.take (splitS l.length)) ++ (textsS (l.drop (splitS l.length)) ++ [nodeT (rootS (l.take (splitS l.length))) (rootS (l.drop (splitS l.length)))]) := by
  rw [textsS, dif_neg (by omega), dif_neg (by omega)]
theorem pathS_one {l : List (List UInt8)} (h : l.length ≤ 1) (i : Nat) : pathS l i = [] := by rw [pathS, dif_pos h]
theorem pathS_low {l : List (List UInt8)} {i : Nat} (h : 2 ≤ l.length) (hi : i < splitS l.length) : pathS l i = pathS (l.take (splitS l.length)) i ++ [rootS (l.drop (splitS l.length))] := by
  rw [pathS, dif_neg (by omega)]
  exact if_pos hi
theorem pathS_high {l : List (List UInt8)} {i : Nat} (h : 2 ≤ l.length) (hi : ¬ i < splitS l.length) : pathS l i = pathS (l.drop (splitS l.length)) (i - splitS l.length) ++ [rootS (l.take (splitS l.length))] := by
  rw [pathS, dif_neg (by omega)]
  exact if_neg hi
theorem partS_end {l : List (List UInt8)} (whole : Bool) : partS l l.length whole = if whole then [] else [rootS l] := by rw [partS, dif_pos (.inr rfl)]
theorem partS_low {l : List (List UInt8)} {m : Nat} (whole : Bool) (h : 2 ≤ l.length) (hm : m ≠ l.length) (hi : m ≤ splitS l.length) : partS l m whole = partS (l.take (splitS l.length)) m whole ++ [rootS (l.drop (splitS l.length))] := by
  rw [partS, dif_neg (by omega)]
  exact if_pos hi
theorem partS_high {l : List (List UInt8)} {m : Nat} (whole : Bool) (h : 2 ≤ l.length) (hm : m ≠ l.length) (hi : ¬ m ≤ splitS l.length) : partS l m whole = partS (l.drop (splitS l.length)) (m - splitS l.length) false ++ [rootS (l.take (splitS l.length))] := by
  rw [partS, dif_neg (by omega)]
  exact if_neg hi
end Go.Proofs.Ytinpiodfpnbllaa

/- Proofs and growths in plain words: which fit, what roots and texts they give, and what follows if they are accepted. -/
namespace Go.Proofs.Ytinpiodfpnbllaa
set_option linter.unusedVariables false

/-- How many entries a path has. -/
def stepsS (n i : Nat) : Nat :=
  if h : n ≤ 1 then 0
  else
    have := splitS_lt (n := n) (by omega)
    have := splitS_pos n
    if i < splitS n then 1 + stepsS (splitS n) i else 1 + stepsS (n - splitS n) (i - splitS n)
termination_by n
decreasing_by all_goals omega
theorem stepsS_one {n : Nat} (h : n ≤ 1) (i : Nat) : stepsS n i = 0 := by rw [stepsS, dif_pos h]
theorem stepsS_low {n i : Nat} (h : 2 ≤ n) (hi : i < splitS n) : stepsS n i = 1 + stepsS (splitS n) i := by
  rw [stepsS, dif_neg (by omega)]
  exact if_pos hi
theorem stepsS_high {n i : Nat} (h : 2 ≤ n) (hi : ¬ i < splitS n) : stepsS n i = 1 + stepsS (n - splitS n) (i - splitS n) := by
  rw [stepsS, dif_neg (by omega)]
  exact if_neg hi

def lastK (l : List (List UInt8)) : List UInt8 := l.getD (l.length - 1) []
def initK (l : List (List UInt8)) : List (List UInt8) := l.take (l.length - 1)
theorem initK_length (l : List (List UInt8)) : (initK l).length = l.length - 1 := by simp [initK]
theorem lastK_snoc (l : List (List UInt8)) (x : List UInt8) : lastK (l ++ [x]) = x := by simp [lastK]
theorem initK_snoc (l : List (List UInt8)) (x : List UInt8) : initK (l ++ [x]) = l := by simp [initK]
theorem lastK_mem {l : List (List UInt8)} (h : 0 < l.length) : lastK l ∈ l := by
  unfold lastK
  rw [List.getD_eq_getElem?_getD, List.getElem?_eq_getElem (by omega)]
  exact List.getElem_mem _
theorem initK_mem {l : List (List UInt8)} {x : List UInt8} (h : x ∈ initK l) : x ∈ l := List.mem_of_mem_take h

/-- The root that a path gives for a leaf, and the texts whose digests are taken. -/
def climbS (leaf : List UInt8) (n i : Nat) (path : List (List UInt8)) : List UInt8 × List (List UInt8) :=
  if h : n ≤ 1 then (digS (leafT leaf), [leafT leaf])
  else
    have := splitS_lt (n := n) (by omega)
    have := splitS_pos n
    if i < splitS n then
      (digS (nodeT (climbS leaf (splitS n) i (initK path)).1 (lastK path)), (climbS leaf (splitS n) i (initK path)).2 ++ [nodeT (climbS leaf (splitS n) i (initK path)).1 (lastK path)])
    else
      (digS (nodeT (lastK path) (climbS leaf (n - splitS n) (i - splitS n) (initK path)).1), (climbS leaf (n - splitS n) (i - splitS n) (initK path)).2 ++ [nodeT (lastK path) (climbS leaf (n - splitS n) (i - splitS n) (initK path)).1])
termination_by n
decreasing_by all_goals omega
theorem climbS_one (leaf : List UInt8) {n : Nat} (h : n ≤ 1) (i : Nat) (path : List (List UInt8)) : climbS leaf n i path = (digS (leafT leaf), [leafT leaf]) := by rw [climbS, dif_pos h]
theorem climbS_low (leaf : List UInt8) {n i : Nat} (path : List (List UInt8)) (h : 2 ≤ n) (hi : i < splitS n) :
    climbS leaf n i path = (digS (nodeT (climbS leaf (splitS n) i (initK path)).1 (lastK path)), (climbS leaf (splitS n) i (initK path)).2 ++ [nodeT (climbS leaf (splitS n) i (initK path)).1 (lastK path)]) := by
  rw [climbS, dif_neg (by omega)]
  exact if_pos hi
theorem climbS_high (leaf : List UInt8) {n i : Nat} (path : List (List UInt8)) (h : 2 ≤ n) (hi : ¬ i < splitS n) :
    climbS leaf n i path = (digS (nodeT (lastK path) (climbS leaf (n - splitS n) (i - splitS n) (initK path)).1), (climbS leaf (n - splitS n) (i - splitS n) (initK path)).2 ++ [nodeT (lastK path) (climbS leaf (n - splitS n) (i - splitS n) (initK path)).1]) := by
  rw [climbS, dif_neg (by omega)]
  exact if_neg hi
theorem climbS_length (leaf : List UInt8) (n i : Nat) (path : List (List UInt8)) : (climbS leaf n i path).1.length = 16 := by
  rw [climbS]
  split
  · exact digS_length _
  · dsimp only
    split <;> exact digS_length _

/-- How many entries a growth has. -/
def partsS (n m : Nat) (whole : Bool) : Nat :=
  if h : n ≤ 1 ∨ m = n then (if whole then 0 else 1)
  else
    have := splitS_lt (n := n) (by omega)
    have := splitS_pos n
    if m ≤ splitS n then 1 + partsS (splitS n) m whole else 1 + partsS (n - splitS n) (m - splitS n) false
termination_by n
decreasing_by all_goals omega
theorem partsS_end (n : Nat) (whole : Bool) : partsS n n whole = if whole then 0 else 1 := by rw [partsS, dif_pos (.inr rfl)]
theorem partsS_low {n m : Nat} (whole : Bool) (h : 2 ≤ n) (hm : m ≠ n) (hi : m ≤ splitS n) : partsS n m whole = 1 + partsS (splitS n) m whole := by
  rw [partsS, dif_neg (by omega)]
  exact if_pos hi
theorem partsS_high {n m : Nat} (whole : Bool) (h : 2 ≤ n) (hm : m ≠ n) (hi : ¬ m ≤ splitS n) : partsS n m whole = 1 + partsS (n - splitS n) (m - splitS n) false := by
  rw [partsS, dif_neg (by omega)]
  exact if_neg hi

/-- The two roots that a growth path gives for an old root, and the texts whose digests are taken. -/
def growS (before : List UInt8) (n m : Nat) (path : List (List UInt8)) : List UInt8 × List UInt8 × List (List UInt8) :=
  if h : n ≤ 1 ∨ m = n then (path.headD before, path.headD before, [])
  else
    have := splitS_lt (n := n) (by omega)
    have := splitS_pos n
    if m ≤ splitS n then
      ((growS before (splitS n) m (initK path)).1, digS (nodeT (growS before (splitS n) m (initK path)).2.1 (lastK path)),
        (growS before (splitS n) m (initK path)).2.2 ++ [nodeT (growS before (splitS n) m (initK path)).2.1 (lastK path)])
    else
      (digS (nodeT (lastK path) (growS before (n - splitS n) (m - splitS n) (initK path)).1), digS (nodeT (lastK path) (growS before (n - splitS n) (m - splitS n) (initK path)).2.1),
        (growS before (n - splitS n) (m - splitS n) (initK path)).2.2 ++ [nodeT (lastK path) (growS before (n - splitS n) (m - splitS n) (initK path)).1, nodeT (lastK path) (growS before (n - splitS n) (m - splitS n) (initK path)).2.1])
termination_by n
decreasing_by all_goals omega
theorem growS_end (before : List UInt8) (n : Nat) (path : List (List UInt8)) : growS before n n path = (path.headD before, path.headD before, []) := by rw [growS, dif_pos (.inr rfl)]
theorem growS_low (before : List UInt8) {n m : Nat} (path : List (List UInt8)) (h : 2 ≤ n) (hm : m ≠ n) (hi : m ≤ splitS n) :
    growS before n m path = ((growS before (splitS n) m (initK path)).1, digS (nodeT (growS before (splitS n) m (initK path)).2.1 (lastK path)),
        (growS before (splitS n) m (initK path)).2.2 ++ [nodeT (growS before (splitS n) m (initK path)).2.1 (lastK path)]) := by
  rw [growS, dif_neg (by omega)]
  exact if_pos hi
theorem growS_high (before : List UInt8) {n m : Nat} (path : List (List UInt8)) (h : 2 ≤ n) (hm : m ≠ n) (hi : ¬ m ≤ splitS n) :
    growS before n m path = (digS (nodeT (lastK path) (growS before (n - splitS n) (m - splitS n) (initK path)).1), digS (nodeT (lastK path) (growS before (n - splitS n) (m - splitS n) (initK path)).2.1),
        (growS before (n - splitS n) (m - splitS n) (initK path)).2.2 ++ [nodeT (lastK path) (growS before (n - splitS n) (m - splitS n) (initK path)).1, nodeT (lastK path) (growS before (n - splitS n) (m - splitS n) (initK path)).2.1]) := by
  rw [growS, dif_neg (by omega)]
  exact if_neg hi
def All16 (l : List (List UInt8)) : Prop := ∀ k ∈ l, k.length = 16
theorem All16.init {l : List (List UInt8)} (h : All16 l) : All16 (initK l) := fun k hk => h k (initK_mem hk)
theorem All16.last {l : List (List UInt8)} (h : All16 l) (hl : 0 < l.length) : (lastK l).length = 16 := h _ (lastK_mem hl)
theorem headD_length {l : List (List UInt8)} {b : List UInt8} (h : All16 l) (hb : b.length = 16) : (l.headD b).length = 16 := by
  cases l with
  | nil => exact hb
  | cons x l => exact h x List.mem_cons_self
theorem growS_length {before : List UInt8} (hb : before.length = 16) : ∀ (n m : Nat) {path : List (List UInt8)}, All16 path → (growS before n m path).1.length = 16 ∧ (growS before n m path).2.1.length = 16 := by
  intro n
  induction n using Nat.strongRecOn with
  | _ n ih =>
    intro m path hp
    rw [growS]
    split
    · exact ⟨headD_length hp hb, headD_length hp hb⟩
    · rename_i h
      have h1 := splitS_lt (n := n) (by omega)
      have h2 := splitS_pos n
      dsimp only
      split
      · exact ⟨(ih _ (by omega) _ hp.init).1, digS_length _⟩
      · exact ⟨digS_length _, digS_length _⟩

/-- Two different texts have the same digest. -/
def Clash (ts : List (List UInt8)) : Prop := ∃ s ∈ ts, ∃ t ∈ ts, s ≠ t ∧ digS s = digS t
theorem Clash.mono {a b : List (List UInt8)} (h : Clash a) (hs : ∀ x ∈ a, x ∈ b) : Clash b := by
  obtain ⟨s, h1, t, h2, h3⟩ := h
  exact ⟨s, hs _ h1, t, hs _ h2, h3⟩
theorem same_or {ts : List (List UInt8)} {s t : List UInt8} (hs : s ∈ ts) (ht : t ∈ ts) (h : digS s = digS t) : s = t ∨ Clash ts := by
  by_cases e : s = t
  · exact .inl e
  · exact .inr ⟨s, hs, t, ht, e, h⟩
theorem nodeT_inj {a b c d : List UInt8} (h : nodeT a b = nodeT c d) (hl : a.length = c.length) : a = c ∧ b = d := by
  unfold nodeT at h
  injection h with _ h
  exact List.append_inj h hl
theorem leafT_inj {a b : List UInt8} (h : leafT a = leafT b) : a = b := by
  unfold leafT at h
  injection h
theorem texts_root {l : List (List UInt8)} (h : 2 ≤ l.length) : nodeT (rootS (l.take (splitS l.length))) (rootS (l.drop (splitS l.length))) ∈ textsS l := by rw [textsS_node h]; simp
theorem texts_take {l : List (List UInt8)} (h : 2 ≤ l.length) : ∀ x ∈ textsS (l.take (splitS l.length)), x ∈ textsS l := fun x hx => by rw [textsS_node h]; simp [hx]
theorem texts_drop {l : List (List UInt8)} (h : 2 ≤ l.length) : ∀ x ∈ textsS (l.drop (splitS l.length)), x ∈ textsS l := fun x hx => by rw [textsS_node h]; simp [hx]

/-- Two lists of one length with one root are the same, or two texts have one digest. -/
theorem root_same : ∀ (n : Nat) (a b : List (List UInt8)), a.length = n → b.length = n → rootS a = rootS b → a = b ∨ Clash (textsS a ++ textsS b) := by
  intro n
  induction n using Nat.strongRecOn with
  | _ n ih =>
    intro a b ha hb h
    rcases Nat.lt_or_ge n 2 with h2 | h2
    · rcases Nat.lt_or_ge n 1 with h1 | h1
      · obtain rfl : n = 0 := by omega
        rw [List.eq_nil_of_length_eq_zero ha, List.eq_nil_of_length_eq_zero hb]
        exact .inl rfl
      · obtain rfl : n = 1 := by omega
        obtain ⟨x, rfl⟩ := List.length_eq_one_iff.1 ha
        obtain ⟨y, rfl⟩ := List.length_eq_one_iff.1 hb
        rw [rootS_one, rootS_one] at h
        rcases same_or (ts := textsS [x] ++ textsS [y]) (by rw [textsS_one]; simp) (by rw [textsS_one y]; simp) h with h | h
        · rw [leafT_inj h]; exact .inl rfl
        · exact .inr h
    have s1 := splitS_lt h2
    have s2 := splitS_pos n
    rw [rootS_node (by omega), rootS_node (l := b) (by omega)] at h
    rcases same_or (ts := textsS a ++ textsS b) (List.mem_append_left _ (texts_root (by omega))) (List.mem_append_right _ (texts_root (by omega))) h with h | h
    · obtain ⟨e1, e2⟩ := nodeT_inj h (by rw [rootS_length, rootS_length])
      have ta := texts_take (l := a) (by omega)
      have tb := texts_take (l := b) (by omega)
      have da := texts_drop (l := a) (by omega)
      have db := texts_drop (l := b) (by omega)
      rw [ha] at e1 e2 ta da
      rw [hb] at e1 e2 tb db
      rcases ih (splitS n) s1 _ _ (by rw [List.length_take]; omega) (by rw [List.length_take]; omega) e1 with f1 | f1
      · rcases ih (n - splitS n) (by omega) _ _ (by rw [List.length_drop]; omega) (by rw [List.length_drop]; omega) e2 with f2 | f2
        · left
          rw [← List.take_append_drop (splitS n) a, f1, f2, List.take_append_drop]
        · exact .inr (f2.mono fun x hx => by rcases List.mem_append.1 hx with hx | hx; exact List.mem_append_left _ (da x hx); exact List.mem_append_right _ (db x hx))
      · exact .inr (f1.mono fun x hx => by rcases List.mem_append.1 hx with hx | hx; exact List.mem_append_left _ (ta x hx); exact List.mem_append_right _ (tb x hx))
    · exact .inr h

theorem pathS_steps : ∀ (n : Nat) (l : List (List UInt8)) (i : Nat), l.length = n → (pathS l i).length = stepsS n i := by
  intro n
  induction n using Nat.strongRecOn with
  | _ n ih =>
    intro l i hl
    rcases Nat.lt_or_ge n 2 with h2 | h2
    · rw [pathS_one (by omega), stepsS_one (by omega)]; rfl
    have s1 := splitS_lt h2
    have s2 := splitS_pos n
    by_cases hi : i < splitS n
    · rw [pathS_low (by omega) (by rw [hl]; exact hi), stepsS_low h2 hi, List.length_append, hl, ih (splitS n) s1 _ _ (by rw [List.length_take]; omega)]
      simp only [List.length_cons, List.length_nil]; omega
    · rw [pathS_high (by omega) (by rw [hl]; exact hi), stepsS_high h2 hi, List.length_append, hl, ih (n - splitS n) (by omega) _ _ (by rw [List.length_drop]; omega)]
      simp only [List.length_cons, List.length_nil]; omega

/-- Each leaf is proved. -/
theorem climb_path : ∀ (n : Nat) (l : List (List UInt8)) (i : Nat), l.length = n → i < n → (climbS (l.getD i []) n i (pathS l i)).1 = rootS l := by
  intro n
  induction n using Nat.strongRecOn with
  | _ n ih =>
    intro l i hl hi
    rcases Nat.lt_or_ge n 2 with h2 | h2
    · obtain rfl : n = 1 := by omega
      obtain ⟨x, rfl⟩ := List.length_eq_one_iff.1 hl
      obtain rfl : i = 0 := by omega
      rw [climbS_one _ (by omega), rootS_one]; rfl
    have s1 := splitS_lt h2
    have s2 := splitS_pos n
    by_cases hk : i < splitS n
    · have := ih (splitS n) s1 (l.take (splitS n)) i (by rw [List.length_take]; omega) hk
      rw [climbS_low _ _ h2 hk, pathS_low (by omega) (by rw [hl]; exact hk), lastK_snoc, initK_snoc, hl]
      have e : (l.take (splitS n)).getD i [] = l.getD i [] := by simp [List.getD_eq_getElem?_getD, hk]
      rw [← e, this, rootS_node (l := l) (by omega), hl]
    · have := ih (n - splitS n) (by omega) (l.drop (splitS n)) (i - splitS n) (by rw [List.length_drop]; omega) (by omega)
      rw [climbS_high _ _ h2 hk, pathS_high (by omega) (by rw [hl]; exact hk), lastK_snoc, initK_snoc, hl]
      have e : (l.drop (splitS n)).getD (i - splitS n) [] = l.getD i [] := by simp only [List.getD_eq_getElem?_getD, List.getElem?_drop]; rw [show splitS n + (i - splitS n) = i from by omega]
      rw [← e, this, rootS_node (l := l) (by omega), hl]

/-- What is accepted is true, or two texts have one digest. -/
theorem climb_true : ∀ (n : Nat) (l : List (List UInt8)) (leaf : List UInt8) (i : Nat) (path : List (List UInt8)), l.length = n → i < n → path.length = stepsS n i → All16 path →
    (climbS leaf n i path).1 = rootS l → l.getD i [] = leaf ∨ Clash (textsS l ++ (climbS leaf n i path).2) := by
  intro n
  induction n using Nat.strongRecOn with
  | _ n ih =>
    intro l leaf i path hl hi hp h16 h
    rcases Nat.lt_or_ge n 2 with h2 | h2
    · obtain rfl : n = 1 := by omega
      obtain ⟨x, rfl⟩ := List.length_eq_one_iff.1 hl
      obtain rfl : i = 0 := by omega
      rw [climbS_one _ (by omega)] at h ⊢
      rw [rootS_one] at h
      rcases same_or (ts := textsS [x] ++ [leafT leaf]) (by simp) (by rw [textsS_one]; simp) h with h | h
      · rw [leafT_inj h]; exact .inl rfl
      · exact .inr h
    have s1 := splitS_lt h2
    have s2 := splitS_pos n
    have t0 := texts_root (l := l) (by omega)
    have t1 := texts_take (l := l) (by omega)
    have t2 := texts_drop (l := l) (by omega)
    rw [rootS_node (by omega)] at h
    rw [hl] at h t0 t1 t2
    by_cases hk : i < splitS n
    · rw [stepsS_low h2 hk] at hp
      rw [climbS_low _ _ h2 hk] at h ⊢
      have IH := ih (splitS n) s1 (l.take (splitS n)) leaf i (initK path) (by rw [List.length_take]; omega) hk (by rw [initK_length]; omega) h16.init
      have e : (l.take (splitS n)).getD i [] = l.getD i [] := by simp [List.getD_eq_getElem?_getD, hk]
      rw [e] at IH
      have hlen := climbS_length leaf (splitS n) i (initK path)
      generalize climbS leaf (splitS n) i (initK path) = r at *
      dsimp only at h ⊢
      rcases same_or (ts := textsS l ++ (r.2 ++ [nodeT r.1 (lastK path)])) (by simp) (List.mem_append_left _ t0) h with h | h
      · obtain ⟨e1, e2⟩ := nodeT_inj h (by rw [hlen, rootS_length])
        rcases IH e1 with f | f
        · exact .inl f
        · exact .inr (f.mono fun x hx => by rcases List.mem_append.1 hx with hx | hx; exact List.mem_append_left _ (t1 x hx); exact List.mem_append_right _ (List.mem_append_left _ hx))
      · exact .inr h
    · rw [stepsS_high h2 hk] at hp
      rw [climbS_high _ _ h2 hk] at h ⊢
      have IH := ih (n - splitS n) (by omega) (l.drop (splitS n)) leaf (i - splitS n) (initK path) (by rw [List.length_drop]; omega) (by omega) (by rw [initK_length]; omega) h16.init
      have e : (l.drop (splitS n)).getD (i - splitS n) [] = l.getD i [] := by simp only [List.getD_eq_getElem?_getD, List.getElem?_drop]; rw [show splitS n + (i - splitS n) = i from by omega]
      rw [e] at IH
      have hlast := h16.last (l := path) (by omega)
      generalize climbS leaf (n - splitS n) (i - splitS n) (initK path) = r at *
      dsimp only at h ⊢
      rcases same_or (ts := textsS l ++ (r.2 ++ [nodeT (lastK path) r.1])) (by simp) (List.mem_append_left _ t0) h with h | h
      · obtain ⟨e1, e2⟩ := nodeT_inj h (by rw [hlast, rootS_length])
        rcases IH e2 with f | f
        · exact .inl f
        · exact .inr (f.mono fun x hx => by rcases List.mem_append.1 hx with hx | hx; exact List.mem_append_left _ (t2 x hx); exact List.mem_append_right _ (List.mem_append_left _ hx))
      · exact .inr h

theorem partS_parts : ∀ (n : Nat) (l : List (List UInt8)) (m : Nat) (wh : Bool), l.length = n → 1 ≤ m → m ≤ n → (partS l m wh).length = partsS n m wh := by
  intro n
  induction n using Nat.strongRecOn with
  | _ n ih =>
    intro l m wh hl h1 hm
    by_cases he : m = n
    · subst he
      rw [partsS_end]
      subst hl
      rw [partS_end]
      cases wh <;> rfl
    have s1 := splitS_lt (n := n) (by omega)
    have s2 := splitS_pos n
    by_cases hi : m ≤ splitS n
    · rw [partS_low _ (by omega) (by omega) (by rw [hl]; exact hi), partsS_low _ (by omega) he hi, List.length_append, hl, ih (splitS n) s1 _ _ _ (by rw [List.length_take]; omega) h1 hi]
      simp only [List.length_cons, List.length_nil]; omega
    · rw [partS_high _ (by omega) (by omega) (by rw [hl]; exact hi), partsS_high _ (by omega) he hi, List.length_append, hl, ih (n - splitS n) (by omega) _ _ _ (by rw [List.length_drop]; omega) (by omega) (by omega)]
      simp only [List.length_cons, List.length_nil]; omega

theorem split_between {n m : Nat} (h1 : splitS n < m) (h2 : m ≤ n) : splitS m = splitS n := by
  have := splitS_pos n
  have := splitS_ge (n := n) (by omega)
  exact splitS_of h1 (by unfold splitS at this; omega)

/-- The growth from each beginning is proved. -/
theorem grow_part : ∀ (n : Nat) (l : List (List UInt8)) (m : Nat) (wh : Bool) (before : List UInt8), l.length = n → 1 ≤ m → m ≤ n → (wh = true → before = rootS (l.take m)) →
    (growS before n m (partS l m wh)).1 = rootS (l.take m) ∧ (growS before n m (partS l m wh)).2.1 = rootS l := by
  intro n
  induction n using Nat.strongRecOn with
  | _ n ih =>
    intro l m wh before hl h1 hm hb
    by_cases he : m = n
    · subst he
      rw [growS_end]
      subst hl
      rw [partS_end]
      rw [List.take_length] at hb ⊢
      cases wh with
      | true => simp [hb rfl]
      | false => simp
    have h2 : 2 ≤ n := by omega
    have s1 := splitS_lt h2
    have s2 := splitS_pos n
    by_cases hi : m ≤ splitS n
    · have e : (l.take (splitS n)).take m = l.take m := by rw [List.take_take, Nat.min_eq_left hi]
      have IH := ih (splitS n) s1 (l.take (splitS n)) m wh before (by rw [List.length_take]; omega) h1 hi (by rw [e]; exact hb)
      rw [e] at IH
      rw [partS_low _ (by omega) (by omega) (by rw [hl]; exact hi), growS_low _ _ h2 he hi, lastK_snoc, initK_snoc, hl]
      dsimp only
      exact ⟨IH.1, by rw [IH.2, rootS_node (l := l) (by omega), hl]⟩
    · have IH := ih (n - splitS n) (by omega) (l.drop (splitS n)) (m - splitS n) false before (by rw [List.length_drop]; omega) (by omega) (by omega) (by simp)
      rw [partS_high _ (by omega) (by omega) (by rw [hl]; exact hi), growS_high _ _ h2 he hi, lastK_snoc, initK_snoc, hl]
      dsimp only
      have hlm : (l.take m).length = m := by rw [List.length_take]; omega
      refine ⟨?_, by rw [IH.2, rootS_node (l := l) (by omega), hl]⟩
      rw [IH.1, rootS_node (l := l.take m) (by omega), hlm, split_between (by omega) hm, List.take_take, Nat.min_eq_left (by omega), List.take_drop, show splitS n + (m - splitS n) = m from by omega]

/-- An accepted growth is true, or two texts have one digest. -/
theorem grow_true : ∀ (n : Nat) (a b : List (List UInt8)) (m : Nat) (wh : Bool) (before : List UInt8) (path : List (List UInt8)), a.length = m → b.length = n → 1 ≤ m → m ≤ n → path.length = partsS n m wh → All16 path →
    (growS before n m path).1 = rootS a → (growS before n m path).2.1 = rootS b → a = b.take m ∨ Clash (textsS a ++ (textsS b ++ (growS before n m path).2.2)) := by
  intro n
  induction n using Nat.strongRecOn with
  | _ n ih =>
    intro a b m wh before path ha hb h1 hm hp h16 hA hB
    by_cases he : m = n
    · subst he
      rw [growS_end] at hA hB
      rcases root_same m a b ha hb (by rw [← hA, ← hB]) with h | h
      · left; rw [h, ← hb, List.take_length]
      · exact .inr (h.mono fun x hx => by rcases List.mem_append.1 hx with hx | hx; exact List.mem_append_left _ hx; exact List.mem_append_right _ (List.mem_append_left _ hx))
    have h2 : 2 ≤ n := by omega
    have s1 := splitS_lt h2
    have s2 := splitS_pos n
    have t0 := texts_root (l := b) (by omega)
    have t1 := texts_take (l := b) (by omega)
    have t2 := texts_drop (l := b) (by omega)
    rw [rootS_node (l := b) (by omega)] at hB
    rw [hb] at hB t0 t1 t2
    by_cases hi : m ≤ splitS n
    · rw [partsS_low _ h2 he hi] at hp
      have e : (b.take (splitS n)).take m = b.take m := by rw [List.take_take, Nat.min_eq_left hi]
      have IH := ih (splitS n) s1 a (b.take (splitS n)) m wh before (initK path) ha (by rw [List.length_take]; omega) h1 hi (by rw [initK_length]; omega) h16.init
      rw [e] at IH
      rw [growS_low _ _ h2 he hi] at hA hB ⊢
      have hrl : path.length ≠ 0 := by omega
      obtain ⟨r, hr⟩ : ∃ r, r = growS before (splitS n) m (initK path) := ⟨_, rfl⟩
      have hlen : r.2.1.length = (rootS (b.take (splitS n))).length ∨ ¬ r.2.1.length = (rootS (b.take (splitS n))).length := Decidable.em _
      rw [← hr] at IH hA hB ⊢
      dsimp only at hA hB ⊢
      rcases same_or (ts := textsS a ++ (textsS b ++ (r.2.2 ++ [nodeT r.2.1 (lastK path)]))) (by simp) (List.mem_append_right _ (List.mem_append_left _ t0)) hB with h | h
      · have hll := h16.last (l := path) (by omega)
        have hle : r.2.1.length = (rootS (b.take (splitS n))).length := by
          have := congrArg List.length h
          simp only [nodeT, List.length_cons, List.length_append, hll, rootS_length] at this
          rw [rootS_length]; omega
        obtain ⟨e1, e2⟩ := nodeT_inj h hle
        rcases IH hA e1 with f | f
        · exact .inl f
        · refine .inr (f.mono fun x hx => ?_)
          rcases List.mem_append.1 hx with hx | hx
          · exact List.mem_append_left _ hx
          · refine List.mem_append_right _ ?_
            rcases List.mem_append.1 hx with hx | hx
            · exact List.mem_append_left _ (t1 x hx)
            · exact List.mem_append_right _ (List.mem_append_left _ hx)
      · exact .inr h
    · rw [partsS_high _ h2 he hi] at hp
      have sm := split_between (n := n) (m := m) (by omega) hm
      have u0 := texts_root (l := a) (by omega)
      have u1 := texts_take (l := a) (by omega)
      have u2 := texts_drop (l := a) (by omega)
      rw [rootS_node (l := a) (by omega)] at hA
      rw [ha, sm] at hA u0 u1 u2
      have e : (b.drop (splitS n)).take (m - splitS n) = (b.take m).drop (splitS n) := by rw [List.take_drop, show splitS n + (m - splitS n) = m from by omega]
      have IH := ih (n - splitS n) (by omega) (a.drop (splitS n)) (b.drop (splitS n)) (m - splitS n) false before (initK path) (by rw [List.length_drop]; omega) (by rw [List.length_drop]; omega) (by omega) (by omega) (by rw [initK_length]; omega) h16.init
      rw [e] at IH
      rw [growS_high _ _ h2 he hi] at hA hB ⊢
      obtain ⟨r, hr⟩ : ∃ r, r = growS before (n - splitS n) (m - splitS n) (initK path) := ⟨_, rfl⟩
      rw [← hr] at IH hA hB ⊢
      dsimp only at hA hB ⊢
      have hll := h16.last (l := path) (by omega)
      rcases same_or (ts := textsS a ++ (textsS b ++ (r.2.2 ++ [nodeT (lastK path) r.1, nodeT (lastK path) r.2.1]))) (by simp) (List.mem_append_right _ (List.mem_append_left _ t0)) hB with hB | h
      · rcases same_or (ts := textsS a ++ (textsS b ++ (r.2.2 ++ [nodeT (lastK path) r.1, nodeT (lastK path) r.2.1]))) (by simp) (List.mem_append_left _ u0) hA with hA | h
        · obtain ⟨e1, e2⟩ := nodeT_inj hB (by rw [hll, rootS_length])
          obtain ⟨e3, e4⟩ := nodeT_inj hA (by rw [hll, rootS_length])
          rcases root_same (splitS n) (a.take (splitS n)) (b.take (splitS n)) (by rw [List.length_take]; omega) (by rw [List.length_take]; omega) (e3.symm.trans e1) with f | f
          · rcases IH e4 e2 with g | g
            · left
              rw [← List.take_append_drop (splitS n) a, f, g]
              have : b.take (splitS n) = (b.take m).take (splitS n) := by rw [List.take_take, Nat.min_eq_left (by omega)]
              rw [this, List.take_append_drop]
            · refine .inr (g.mono fun x hx => ?_)
              rcases List.mem_append.1 hx with hx | hx
              · exact List.mem_append_left _ (u2 x hx)
              · refine List.mem_append_right _ ?_
                rcases List.mem_append.1 hx with hx | hx
                · exact List.mem_append_left _ (t2 x hx)
                · exact List.mem_append_right _ (List.mem_append_left _ hx)
          · refine .inr (f.mono fun x hx => ?_)
            rcases List.mem_append.1 hx with hx | hx
            · exact List.mem_append_left _ (u1 x hx)
            · exact List.mem_append_right _ (List.mem_append_left _ (t1 x hx))
        · exact .inr h
      · exact .inr h
end Go.Proofs.Ytinpiodfpnbllaa

/- The leaves of revocation lists in plain words, and what an accepted proof of absence says. -/
namespace Go.Proofs.Ytinpiodfpnbllaa
set_option linter.unusedVariables false

def isE (x : Ent) : Bool := decide (-1 ≤ x.1) && (decide (x.1 ≤ 64) && (decide (0 ≤ x.2) && decide (x.2 ≤ 1099511627776)))
theorem isE_iff {x : Ent} : isE x = true ↔ -1 ≤ x.1 ∧ x.1 ≤ 64 ∧ 0 ≤ x.2 ∧ x.2 ≤ 1099511627776 := by simp [isE]
theorem isE_ok {x : Ent} (h : okE x = true) : isE x = true := by
  rw [okE_iff] at h
  rw [isE_iff]
  omega
/-- The bytes of a number, the lowest one last. -/
def be8 (n : Nat) : List UInt8 := [UInt8.ofNat (n / 72057594037927936), UInt8.ofNat (n / 281474976710656), UInt8.ofNat (n / 1099511627776), UInt8.ofNat (n / 4294967296), UInt8.ofNat (n / 16777216), UInt8.ofNat (n / 65536), UInt8.ofNat (n / 256), UInt8.ofNat n]
def leafE (x : Ent) : List UInt8 := [0, 0, 0, 0, 0, 0, 0, UInt8.ofNat (x.1 + 1).toNat] ++ be8 x.2.toNat
theorem leafE_length (x : Ent) : (leafE x).length = 16 := rfl
theorem ofNat_inj {a b : Nat} (h : UInt8.ofNat a = UInt8.ofNat b) : a % 256 = b % 256 := by
  have := congrArg UInt8.toNat h
  simpa using this
theorem up256 {a b : Nat} (h1 : a / 256 = b / 256) (h2 : a % 256 = b % 256) : a = b := by omega
theorem leafE_inj {x y : Ent} (hx : isE x = true) (hy : isE y = true) (h : leafE x = leafE y) : x = y := by
  rw [isE_iff] at hx hy
  obtain ⟨a, b⟩ := x
  obtain ⟨c, d⟩ := y
  simp only at hx hy
  simp only [leafE, be8, List.cons_append, List.nil_append, List.cons.injEq, true_and, and_true] at h
  obtain ⟨h0, h1, h2, h3, h4, h5, h6, h7, h8⟩ := h
  have e0 := ofNat_inj h0
  have e1 := ofNat_inj h1
  have e2 := ofNat_inj h2
  have e3 := ofNat_inj h3
  have e4 := ofNat_inj h4
  have e5 := ofNat_inj h5
  have e6 := ofNat_inj h6
  have e7 := ofNat_inj h7
  have e8 := ofNat_inj h8
  have f0 : a = c := by clear e1 e2 e3 e4 e5 e6 e7 e8; omega
  have hb : b.toNat / 1099511627776 < 256 := by clear e0 e1 e2 e3 e4 e5 e6 e7 e8; omega
  have hd : d.toNat / 1099511627776 < 256 := by clear e0 e1 e2 e3 e4 e5 e6 e7 e8; omega
  rw [Nat.mod_eq_of_lt hb, Nat.mod_eq_of_lt hd] at e3
  have g4 : b.toNat / 4294967296 = d.toNat / 4294967296 := up256 (by rw [Nat.div_div_eq_div_mul, Nat.div_div_eq_div_mul]; exact e3) e4
  have g5 : b.toNat / 16777216 = d.toNat / 16777216 := up256 (by rw [Nat.div_div_eq_div_mul, Nat.div_div_eq_div_mul]; exact g4) e5
  have g6 : b.toNat / 65536 = d.toNat / 65536 := up256 (by rw [Nat.div_div_eq_div_mul, Nat.div_div_eq_div_mul]; exact g5) e6
  have g7 : b.toNat / 256 = d.toNat / 256 := up256 (by rw [Nat.div_div_eq_div_mul, Nat.div_div_eq_div_mul]; exact g6) e7
  have f1 : b.toNat = d.toNat := up256 g7 e8
  have f2 : b = d := by clear e1 e2 e3 e4 e5 e6 e7 e8 g4 g5 g6 g7; omega
  rw [f0, f2]
/-- The entries of a list with one at each end, and their leaves. -/
def endedE (l : List Ent) : List Ent := (-1, 0) :: (l ++ [(64, 0)])
def leavesE (l : List Ent) : List (List UInt8) := (endedE l).map leafE
theorem endedE_length (l : List Ent) : (endedE l).length = l.length + 2 := by simp [endedE]
theorem leavesE_length (l : List Ent) : (leavesE l).length = l.length + 2 := by rw [leavesE, List.length_map, endedE_length]
theorem leavesE_16 (l : List Ent) : All16 (leavesE l) := fun k hk => by
  obtain ⟨x, _, rfl⟩ := List.mem_map.1 hk
  exact leafE_length x
theorem validL_length {l : List Ent} (h : validL l = true) : l.length ≤ 64 := by
  suffices hs : ∀ (l : List Ent) (p : Int), upE p l = true → (∀ x ∈ l, x.1 < 64) → (l.length : Int) ≤ 63 - p ∨ l.length = 0 by
    have hv := validL_iff.1 h
    have hu : upE (-1) l = true := upE_of hv.2 fun x hx => by have := okE_iff.1 (hv.1 x hx); omega
    rcases hs l (-1) hu fun x hx => (okE_iff.1 (hv.1 x hx)).2.1 with h | h <;> omega
  intro l
  induction l with
  | nil => intro p _ _; exact .inr rfl
  | cons x l ih =>
    intro p hu hl
    simp only [upE, Bool.and_eq_true, decide_eq_true_eq] at hu
    have := hl x List.mem_cons_self
    left
    rw [List.length_cons]
    rcases ih x.1 hu.2 fun y hy => hl y (List.mem_cons_of_mem _ hy) with h | h <;> omega
theorem endedE_pair {l : List Ent} (h : validL l = true) : (endedE l).Pairwise fun x y => x.1 < y.1 := by
  have hv := validL_iff.1 h
  unfold endedE
  rw [List.pairwise_cons, pairwise_snoc]
  refine ⟨fun x hx => ?_, hv.2, fun x hx => (okE_iff.1 (hv.1 x hx)).2.1⟩
  rcases List.mem_append.1 hx with hx | hx
  · have := okE_iff.1 (hv.1 x hx); simp only; omega
  · rw [List.mem_singleton.1 hx]; simp
theorem endedE_is {l : List Ent} (h : validL l = true) : ∀ x ∈ endedE l, isE x = true := by
  intro x hx
  unfold endedE at hx
  rcases List.mem_cons.1 hx with rfl | hx
  · decide
  · rcases List.mem_append.1 hx with hx | hx
    · exact isE_ok ((validL_iff.1 h).1 x hx)
    · rw [List.mem_singleton.1 hx]; decide
/-- Between two neighbours there is no entry. -/
theorem between_none {l : List Ent} (h : validL l = true) {i : Nat} {u : Int} (hi : i + 1 < (endedE l).length) (h1 : ((endedE l)[i]'(by omega)).1 < u) (h2 : u < ((endedE l)[i + 1]'hi).1) : untilS l u = -1 := by
  refine untilS_none fun x hx hxu => ?_
  have hp := List.pairwise_iff_getElem.1 (endedE_pair h)
  have hm : x ∈ endedE l := by unfold endedE; simp [hx]
  obtain ⟨j, hj, rfl⟩ := List.mem_iff_getElem.1 hm
  rcases Nat.lt_or_ge i j with hij | hij
  · rcases Nat.lt_or_ge (i + 1) j with hij' | hij'
    · have := hp (i + 1) j hi hj hij'; omega
    · obtain rfl : j = i + 1 := by omega
      omega
  · rcases Nat.lt_or_ge j i with hij' | hij'
    · have := hp j i hj (by omega) hij'; omega
    · obtain rfl : j = i := by omega
      omega
/-- An accepted proof of absence is true, or two texts have one digest. -/
theorem absent_true {l : List Ent} (h : validL l = true) {u : Int} {low high : Ent} {i : Nat} {p q : List (List UInt8)} (hlo : isE low = true) (hhi : isE high = true) (h1 : low.1 < u) (h2 : u < high.1)
    (hi : i + 1 < l.length + 2) (hp : p.length = stepsS (l.length + 2) i) (hq : q.length = stepsS (l.length + 2) (i + 1)) (p16 : All16 p) (q16 : All16 q)
    (e1 : (climbS (leafE low) (l.length + 2) i p).1 = rootS (leavesE l)) (e2 : (climbS (leafE high) (l.length + 2) (i + 1) q).1 = rootS (leavesE l)) :
    untilS l u = -1 ∨ Clash (textsS (leavesE l) ++ ((climbS (leafE low) (l.length + 2) i p).2 ++ (climbS (leafE high) (l.length + 2) (i + 1) q).2)) := by
  have hn := leavesE_length l
  rcases climb_true _ (leavesE l) (leafE low) i p hn (by omega) hp p16 e1 with a | a
  · rcases climb_true _ (leavesE l) (leafE high) (i + 1) q hn hi hq q16 e2 with b | b
    · left
      have hel := endedE_length l
      have g1 : (leavesE l).getD i [] = leafE ((endedE l)[i]'(by omega)) := by
        rw [List.getD_eq_getElem?_getD, List.getElem?_eq_getElem (by omega)]
        simp [leavesE]
      have g2 : (leavesE l).getD (i + 1) [] = leafE ((endedE l)[i + 1]'(by omega)) := by
        rw [List.getD_eq_getElem?_getD, List.getElem?_eq_getElem (by omega)]
        simp [leavesE]
      have f1 := leafE_inj (endedE_is h _ (List.getElem_mem _)) hlo (g1.symm.trans a)
      have f2 := leafE_inj (endedE_is h _ (List.getElem_mem _)) hhi (g2.symm.trans b)
      exact between_none h (i := i) (by omega) (by rw [f1]; exact h1) (by rw [f2]; exact h2)
    · exact .inr (b.mono fun x hx => by rcases List.mem_append.1 hx with hx | hx; exact List.mem_append_left _ hx; exact List.mem_append_right _ (List.mem_append_right _ hx))
  · exact .inr (a.mono fun x hx => by rcases List.mem_append.1 hx with hx | hx; exact List.mem_append_left _ hx; exact List.mem_append_right _ (List.mem_append_left _ hx))
end Go.Proofs.Ytinpiodfpnbllaa

/- Guarded operations in regions that draw. -/
namespace Go.Proofs.Ytinpiodfpnbllaa
open Go.RowKit
set_option linter.unusedVariables false

section
variable {P : Program} {md : Region.Mode} {ops : Array Oper} {Q : Exit → Act → World → Prop} {S : World → Prop} {fuel : Nat} {listed : Array Bool} {a : Act} {w : World}
/-- A guarded load of a row that is wanted. -/
theorem hg_load (i : Nat) {oi : Oper} (g o : Nat) (cs : List Value) (ty : TypeId) (x : Operand) {d : TypeDesc} (hi : ops[i]? = some oi) (ho : oi.op = .load ty x) (hg : Region.wanted oi (yielded ops a.tmps) = true)
    (hs : Region.noSelect ops = true) (hf : Region.free md ops listed i = true) (hr : (Region.ready md ops listed).contains i = true) (hQ : ∀ c a w, Q (.panic c) (a.put oi.dst (.agg cs.toArray)) w → Q (.panic c) a w)
    (hx : a.eval x = .pointer (some ⟨g, o, none⟩)) (hS : ∀ w, S w → w.rangeAt g o cs) (hu : P.underlying ty = some d) (hd : d.isRow = true) (hn : (P.info? ty).map (·.size) = some cs.length) (hw : S w)
    (h : wpAnyH P md ops Q S fuel (listed.setIfInBounds i true) (a.put oi.dst (.agg cs.toArray)) w) : wpAnyH P md ops Q S (fuel + 1) listed a w :=
  wpAnyH_take hi hs hf hr hQ (yieldsIf_load_mid hg ty x ho g o hx cs d hS hu hd hn) hw h
/-- A guarded one that is wanted and yields a value. -/
theorem hg_take (i : Nat) {oi : Oper} (v : Value) (hi : ops[i]? = some oi) (hg : Region.wanted oi (yielded ops a.tmps) = true)
    (hs : Region.noSelect ops = true) (hf : Region.free md ops listed i = true) (hr : (Region.ready md ops listed).contains i = true) (hQ : ∀ c a w, Q (.panic c) (a.put oi.dst v) w → Q (.panic c) a w)
    (hy : ∀ w, S w → (execOp a.eval oi).run P w = .ok (.value v) w) (hw : S w)
    (h : wpAnyH P md ops Q S fuel (listed.setIfInBounds i true) (a.put oi.dst v) w) : wpAnyH P md ops Q S (fuel + 1) listed a w :=
  wpAnyH_take hi hs hf hr hQ (.inl ⟨hg, hy⟩) hw h
/-- A guarded one that is not wanted. -/
theorem hg_skip (i : Nat) {oi : Oper} (hi : ops[i]? = some oi) (hg : Region.wanted oi (yielded ops a.tmps) = false)
    (hs : Region.noSelect ops = true) (hf : Region.free md ops listed i = true) (hr : (Region.ready md ops listed).contains i = true) (hQ : ∀ c a w, Q (.panic c) (a.put oi.dst undef) w → Q (.panic c) a w)
    (hw : S w) (h : wpAnyH P md ops Q S fuel (listed.setIfInBounds i true) (a.put oi.dst undef) w) : wpAnyH P md ops Q S (fuel + 1) listed a w :=
  wpAnyH_take hi hs hf hr hQ (.inr ⟨hg, rfl⟩) hw h
/-- A guarded call that is wanted, the only one that may come up. -/
theorem hg_calls (i : Nat) {oi : Oper} (f : FuncId) (args : Array Value) (hi : ops[i]? = some oi) (hg : Region.wanted oi (yielded ops a.tmps) = true) (hr : Region.ready md ops listed = [i]) (hrun : (execOp a.eval oi).run P w = .ok (.enter f args) w)
    (h : Calls P f args w fun e w' => ∃ v, e = .returned v ∧ S w' ∧ wpAnyH P md ops Q S fuel (listed.setIfInBounds i true) (a.put oi.dst v) w') : wpAnyH P md ops Q S (fuel + 1) listed a w := by
  refine wpAnyH_all hr (by simp) fun j hj => ?_
  rw [List.mem_singleton] at hj
  subst hj
  unfold wpOp
  simp only [hi, hg, if_true]
  refine .inl ?_
  unfold Oper.wp
  rw [hrun]
  refine h.mono fun e w' hv => ?_
  obtain ⟨v, rfl, hk⟩ := hv
  exact hk
end
end Go.Proofs.Ytinpiodfpnbllaa

/- The texts of leaves and nodes. -/
namespace Go.Proofs.Ytinpiodfpnbllaa
open Go.RowKit
set_option linter.unusedVariables false

def leafX (k : List UInt8) : List UInt8 := 0 :: k
def nodeX (a b : List UInt8) : List UInt8 := 1 :: (a ++ b)
theorem Blk.src {w : World} {g : Nat} {t : TypeId} {l : List UInt8} (h : Blk w g t (cellsB l).toArray) {n : Nat} (hn : l.length = n) : Src w 1 (some ⟨g, 0, none⟩) n (cellsB l) := by
  subst hn
  refine ⟨by simp [cellsB], .inr ⟨_, rfl, fun j u hu => ?_⟩⟩
  rw [Addr.add_lit, Nat.zero_add, h.cell j]
  simpa using hu
theorem lit_after (w : World) (o : Obj) (x : UInt8) : OB w.heap.size ((w.alloc o).alloc (.cells #[.int .u8 (x.toNat : Int)] 5)) (some ⟨w.heap.size + 1, 0, none⟩) 1 [x] := by
  have h := OB.lit w.heap.size (w.alloc o) [x] (by simp) (by simp) (n := 1) rfl
  rw [World.size_alloc] at h
  exact h
theorem lit_after2 (w : World) (o o' : Obj) (x : UInt8) : OB (w.heap.size + 1 + 1) (((w.alloc o).alloc o').alloc (.cells #[.int .u8 (x.toNat : Int)] 5)) (some ⟨w.heap.size + 1 + 1, 0, none⟩) 1 [x] := by
  have h := OB.lit (w.heap.size + 1 + 1) ((w.alloc o).alloc o') [x] (by simp) (by simp) (n := 1) rfl
  rw [World.size_alloc, World.size_alloc] at h
  exact h

set_option maxHeartbeats 1000000 in
theorem leafText_any (k : List UInt8) (w : World) (hk : k.length = 16) : Calls Try.prog 66 #[.agg (cellsB k).toArray] w fun e w' => (∃ A c, e = .returned (.slice A 17 c) ∧ OB w.heap.size w' A c (leafX k)) ∧ Below w.heap.size w w' := by
  have HK := Lib.hid hk
  have HL := Lib.hid (lit_after w (.cells (cellsB k).toArray 23) 0)
  have HB := Lib.hid (blk_b0 w (cellsB k).toArray 23 (.cells #[.int .u8 ((0 : UInt8).toNat : Int)] 5))
  have b0 := alloc2_bel w (.cells (cellsB k).toArray 23) (.cells #[.int .u8 ((0 : UInt8).toNat : Int)] 5)
  clear hk
  go_enter Try.func66, Try.ntmps66
  go_wp2_with (at_builtin; refine wpList_append_bytes _ rfl (.tmp 3) (.tmp 4) rfl w.heap.size (some ⟨w.heap.size + 1, 0, none⟩) 1 1 [0] rfl rfl HL.out (some ⟨w.heap.size, 0, none⟩) 16 16 k HK.out rfl (HB.out.src HK.out) (by omega) (by simp; omega) ?_; intro A5 c5 w5 hon5 hbl5 hg5; have HON5 := Lib.hid hon5; have b5 := b0.trans hbl5; clear hon5 hg5 hbl5)
  go_ret
  exact ⟨⟨A5, c5, rfl, HON5.out⟩, b5⟩
set_option maxHeartbeats 1000000 in
theorem refLeafText_any (k : List UInt8) (w : World) (hk : k.length = 16) : Calls Try.prog 126 #[.agg (cellsB k).toArray] w fun e w' => (∃ A c, e = .returned (.slice A 17 c) ∧ OB w.heap.size w' A c (leafX k)) ∧ Below w.heap.size w w' := by
  have HK := Lib.hid hk
  have HL := Lib.hid (lit_after w (.cells (cellsB k).toArray 23) 0)
  have HB := Lib.hid (blk_b0 w (cellsB k).toArray 23 (.cells #[.int .u8 ((0 : UInt8).toNat : Int)] 5))
  have b0 := alloc2_bel w (.cells (cellsB k).toArray 23) (.cells #[.int .u8 ((0 : UInt8).toNat : Int)] 5)
  clear hk
  go_enter Try.func126, Try.ntmps126
  go_wp2_with (at_builtin; refine wpList_append_bytes _ rfl (.tmp 3) (.tmp 4) rfl w.heap.size (some ⟨w.heap.size + 1, 0, none⟩) 1 1 [0] rfl rfl HL.out (some ⟨w.heap.size, 0, none⟩) 16 16 k HK.out rfl (HB.out.src HK.out) (by omega) (by simp; omega) ?_; intro A5 c5 w5 hon5 hbl5 hg5; have HON5 := Lib.hid hon5; have b5 := b0.trans hbl5; clear hon5 hg5 hbl5)
  go_ret
  exact ⟨⟨A5, c5, rfl, HON5.out⟩, b5⟩
set_option maxHeartbeats 1000000 in
theorem refNodeText_any (a b : List UInt8) (w : World) (ha : a.length = 16) (hb : b.length = 16) : Calls Try.prog 128 #[.agg (cellsB a).toArray, .agg (cellsB b).toArray] w fun e w' => (∃ A c, e = .returned (.slice A 33 c) ∧ OB w.heap.size w' A c (nodeX a b)) ∧ Below w.heap.size w w' := by
  have HA := Lib.hid ha
  have HB := Lib.hid hb
  have HL := Lib.hid (lit_after2 w (.cells (cellsB a).toArray 23) (.cells (cellsB b).toArray 23) 1)
  have HBa := Lib.hid (blk_a0 w (cellsB a).toArray 23 (.cells (cellsB b).toArray 23) (.cells #[.int .u8 ((1 : UInt8).toNat : Int)] 5))
  have HBb := Lib.hid (blk_a1 w (.cells (cellsB a).toArray 23) (cellsB b).toArray 23 (.cells #[.int .u8 ((1 : UInt8).toNat : Int)] 5))
  have b0 := alloc3_bel w (.cells (cellsB a).toArray 23) (.cells (cellsB b).toArray 23) (.cells #[.int .u8 ((1 : UInt8).toNat : Int)] 5)
  have HAL : Hid ((([1] : List UInt8) ++ a).length = 17) := by unfold Hid; simp [ha]
  clear ha hb
  go_enter Try.func128, Try.ntmps128
  go_wp2_with (first
    | (at_builtin; refine wpList_append_bytes _ rfl (.tmp 6) (.tmp 7) rfl (w.heap.size + 1 + 1) (some ⟨w.heap.size + 1 + 1, 0, none⟩) 1 1 [1] rfl rfl HL.out (some ⟨w.heap.size, 0, none⟩) 16 16 a HA.out rfl (HBa.out.src HA.out) (by omega) (by simp) ?_; intro A5 c5 w5 hon5 hbl5 hg5; have HON5 := Lib.hid hon5; have HBb5 := Lib.hid (HBb.out.below hbl5 (by omega)); have b5 := b0.trans (hbl5.mono (by omega)); clear hon5 hg5 hbl5)
    | (at_builtin; refine wpList_append_bytes _ rfl (.tmp 9) (.tmp 10) rfl (w.heap.size + 1 + 1) A5 17 c5 ([1] ++ a) HAL.out rfl HON5.out (some ⟨w.heap.size + 1, 0, none⟩) 16 16 b HB.out rfl (HBb5.out.src HB.out) (by omega) (by have := HBb5.out.lt; omega) ?_; intro A6 c6 w6 hon6 hbl6 hg6; have HON6 := Lib.hid hon6; have b6 := b5.trans (hbl6.mono (by omega)); clear hon6 hg6 hbl6))
  go_ret
  exact ⟨⟨A6, c6, rfl, HON6.out.le_ (by omega)⟩, b6⟩
end Go.Proofs.Ytinpiodfpnbllaa

/- Lists of keys that the call owns: append. -/
namespace Go.Proofs.Ytinpiodfpnbllaa
open Go.RowKit
set_option linter.unusedVariables false

theorem OK16.below {B : Nat} {w w' : World} {A : Option Addr} {c : Nat} {ks : List (List UInt8)} (h : OK16 B w A c ks) (hb : Below w.heap.size w w') : OK16 B w' A c ks := ownsRow_below h hb
theorem OK16.le_ {B B' : Nat} {w : World} {A : Option Addr} {c : Nat} {ks : List (List UInt8)} (h : OK16 B w A c ks) (hB : B' ≤ B) : OK16 B' w A c ks :=
  ⟨h.1, h.2.elim Or.inl (fun ⟨g, cap, cur, hv, hg, r⟩ => Or.inr ⟨g, cap, cur, hv, Nat.le_trans hB hg, r⟩)⟩
theorem OK16.nil (B : Nat) (w : World) : OK16 B w none 0 [] := World.ownsRow_nil w B _ 16
theorem OK16.kr {B : Nat} {w : World} {A : Option Addr} {c : Nat} {ks : List (List UInt8)} (h : OK16 B w A c ks) (hk : Keys16 ks) (hl : ks.length ≤ 140737488351232) : KR w A c ks := ⟨Rd.of_own h hl, hk⟩
theorem src_key (w : World) {k : List UInt8} (hk : k.length = 16) : Src (w.alloc (.cells (cellsB k).toArray 23)) 16 (some ⟨w.heap.size, 0, none⟩) 1 (cellsK [k]) := by
  refine ⟨by rw [cellsK_one, cellsB_length, hk], .inr ⟨_, rfl, fun j u hu => ?_⟩⟩
  rw [Addr.add_lit, Nat.zero_add, (Blk.new w 23 (cellsB k).toArray).cell j]
  rw [cellsK_one] at hu
  simpa using hu
section
variable {md : Region.Mode} {ops : Array Oper} {Q : Exit → Act → World → Prop} {S : World → Prop} {fuel : Nat} {listed : Array Bool} {a : Act} {w : World}
/-- append to a list of keys that the call owns, the only operation that may come up. -/
theorem hd_appendK (i : Nat) {oi : Oper} (s x : Operand) (hi : ops[i]? = some oi) (ho : oi.op = .call { callee := .builtin .append, args := #[s, x], argTypes := #[40, 40] }) (hg : oi.guard = none) (hr : Region.ready md ops listed = [i])
    (B : Nat) (A : Option Addr) (n c : Nat) (ks : List (List UInt8)) (hn : ks.length = n) (hs : a.eval s = .slice A n c) (hown : OK16 B w A c ks)
    (X : Option Addr) (m d : Nat) (news : List (List UInt8)) (hm : news.length = m) (hx : a.eval x = .slice X m d) (hsrc : Src w 16 X m (cellsK news)) (hlen : n + m ≤ 1000000) (hB : B ≤ w.heap.size)
    (h : ∀ A' c' w', OK16 B w' A' c' (ks ++ news) → Below B w w' → S w' ∧ wpAnyH Try.prog md ops Q S fuel (listed.setIfInBounds i true) (a.put oi.dst (.slice A' (n + m) c')) w') : wpAnyH Try.prog md ops Q S (fuel + 1) listed a w := by
  obtain ⟨i0, hi0, hz0, hz1, hz2⟩ := info_parts key_info3
  subst hn hm
  obtain ⟨A', c', w', hrun, h2, h3, h4⟩ := run_append_src (P := Try.prog) w B 40 oi.type 23 i0 (.agg (cellsB zeroK).toArray) 16 16 Try.underlying40 hi0 hz0 hz1 hz2 rfl (by omega) A ks.length c (cellsK ks) hown X news.length d (cellsK news) hsrc (cells_oneK news) (by simp only [maxLen]; omega) (by omega) hB
  refine hd_one i hi hg hr ?_
  refine Lib.wp_append_run w s x 40 40 ho _ _ hs hx _ w' hrun ?_
  refine h A' c' w' ?_ (grown_below (Below.refl _ _) hown h3 hB (Nat.le_refl _))
  unfold OK16
  rw [cellsK_append, List.length_append]
  exact h2
end
end Go.Proofs.Ytinpiodfpnbllaa

/- The stream portion by portion, in plain words. -/
namespace Go.Proofs.Ytinpiodfpnbllaa
open Go.RowKit
set_option linter.unusedVariables false

theorem stream_at {k : List UInt8} {n : UInt64} {b : List UInt8} {i j : Nat} (hj : j < 16) (h : 16 * i + j < b.length) : (xorS (padK (b.drop (16 * i))) (encS k (tagS 1 (UInt64.ofNat i) n))).getD j 0 = stB1 k n b (16 * i + j) := by
  unfold stB1
  rw [show (16 * i + j) / 16 = i from by omega, show (16 * i + j) % 16 = j from by omega]
  simp [xorS, padK, List.getD, List.getElem?_range hj, List.getElem?_drop]
theorem stream_take {k : List UInt8} {n : UInt64} {b : List UInt8} {m : Nat} (h : m < b.length) : (streamS k n b).take (m + 1) = (streamS k n b).take m ++ [stB1 k n b m] := by
  rw [List.take_succ_eq_append_getElem (by rw [streamS_length]; exact h)]
  simp [streamS]
theorem stream_all {k : List UInt8} {n : UInt64} {b : List UInt8} {m : Nat} (h : b.length ≤ m) : (streamS k n b).take m = streamS k n b := List.take_of_length_le (by rw [streamS_length]; exact h)
end Go.Proofs.Ytinpiodfpnbllaa

/- The check of a content key: the program's. -/
namespace Go.Proofs.Ytinpiodfpnbllaa
open Go.RowKit
set_option linter.unusedVariables false
attribute [local go_sem] run_storeCells_key

/-- The check of a content key. -/
def chkS (k : List UInt8) : List UInt8 := derS k 53 0
set_option maxHeartbeats 1000000 in
set_option maxRecDepth 100000 in
theorem check_any (k : List UInt8) (w : World) (hk : k.length = 16) : Calls Try.prog 54 #[.agg (cellsB k).toArray] w fun e w' => e = .returned (.agg (cellsB (chkS k)).toArray) ∧ Below w.heap.size w w' := by
  have HK := Lib.hid hk
  have hkl : (cellsB k).length = 16 := by rw [cellsB_length, hk]
  have HZ := Lib.hid zero16
  have HD : Hid (∀ W, Calls Try.prog 110 #[.agg (cellsB k).toArray, .int .u8 53, .int .u64 0] W fun e w' => e = .returned (.agg (cellsB (chkS k)).toArray) ∧ Below W.heap.size W w') := fun W => Derive_any k 53 0 W hk
  have hl : (cellsB (chkS k)).length = 16 := rfl
  have hall := all16 (chkS k)
  clear hk
  go_enter Try.func54, Try.ntmps54
  go_wp2_with (go_at_call 110; rw [fold16B k HK.out, HZ.out]; refine (HD.out _).mono ?_; rintro e w1 ⟨rfl, hb1⟩; have hB1 := (blk_b1 w (.cells (cellsB k).toArray 23) (cellsB zeroK).toArray 23).below' hb1; have hr1 : (rowAt w1 (w.heap.size + 1)).size = 16 := by { rw [hB1.row]; rfl }; have hf1 := hB1.free; have HB1 := Lib.hid hB1; clear hB1)
  exact bodyPost_ret (results_cell_row rfl _ _ (w.heap.size + 1) _ _ (0, 0) _ rfl (HB1.out.setRow (cellsB (chkS k)).toArray) under_key rfl (cellsB_size _ rfl)) rfl ⟨rfl, below_setRow ((alloc2_bel w _ _).trans (hb1.mono (alloc2_bel w _ _).size)) (by omega) _⟩
end Go.Proofs.Ytinpiodfpnbllaa

/- Recordings, in plain words. -/
namespace Go.Proofs.Ytinpiodfpnbllaa
open Go.RowKit
set_option linter.unusedVariables false

/-- A recording, or the error. -/
structure RecV where
  x : List UInt8
  c : List UInt8
  d : List UInt8
  e : Int
/-- No recording. -/
def noRec (e : Int) : RecV := ⟨zeroK, zeroK, [], e⟩
def recS (k y b : List UInt8) : RecV := if 16384 < b.length then noRec 4 else ⟨encS k y, chkS y, streamS y 0 b, 0⟩
def rekS (k a x c b : List UInt8) : RecV := if chkS (decS k x) = c then ⟨encS a (decS k x), c, b, 0⟩ else noRec 53
def plyS (k x c b : List UInt8) : List UInt8 × Int := if 16384 < b.length then ([], 4) else if chkS (decS k x) = c then (streamS (decS k x) 0 b, 0) else ([], 53)
/-- What is handed back, in memory of the call's own. -/
def RecErr (B : Nat) (r : RecV) (e : Ending) (w' : World) : Prop := ∃ A c, e = .returned (.tuple #[.agg (recC r.x r.c A r.d.length c).toArray, .int .i64 r.e]) ∧ OB B w' A c r.d
theorem chkS_length (k : List UInt8) : (chkS k).length = 16 := rfl
theorem recS_x (k y b : List UInt8) : (recS k y b).x.length = 16 := by unfold recS noRec; split <;> rfl
theorem recS_c (k y b : List UInt8) : (recS k y b).c.length = 16 := by unfold recS noRec; split <;> rfl
theorem recS_d (k y b : List UInt8) : (recS k y b).d.length ≤ b.length := by
  unfold recS noRec
  split
  · simp
  · simp [streamS_length]
theorem rekS_x (k a x c b : List UInt8) : (rekS k a x c b).x.length = 16 := by unfold rekS noRec; split <;> rfl
theorem rekS_c (k a x c b : List UInt8) (hc : c.length = 16) : (rekS k a x c b).c.length = 16 := by
  unfold rekS noRec
  split
  · exact hc
  · rfl
theorem rekS_d (k a x c b : List UInt8) : (rekS k a x c b).d.length ≤ b.length := by
  unfold rekS noRec
  split <;> simp
theorem plyS_l (k x c b : List UInt8) : (plyS k x c b).1.length ≤ b.length := by
  unfold plyS
  split
  · simp
  · split
    · simp [streamS_length]
    · simp
end Go.Proofs.Ytinpiodfpnbllaa

/- A recording, made of its parts. -/
namespace Go.Proofs.Ytinpiodfpnbllaa
open Go.RowKit
set_option linter.unusedVariables false

theorem fill_step (place : Nat → Option (Nat × Nat)) (cells : Array Value) (i off size : Nat) (v : Value) (vs : List Value) (rest : List (Nat × Value)) (hp : place i = some (off, size)) (hv : v.cells = vs.toArray) (hs : vs.length = size) (hf : off + size ≤ cells.size) :
    Instr.fill place cells ((i, v) :: rest) = Instr.fill place (cells.toList.take off ++ (vs ++ cells.toList.drop (off + size))).toArray rest := by
  rw [Instr.fill, hp]
  simp only [hv, List.size_toArray]
  rw [if_neg (by simp [hs]; omega)]
  congr 1
  have e := Great.foldl_set off vs 0 cells
  rw [← Array.foldl_toList, Array.toList_zipIdx]
  apply Array.ext_getElem?
  intro k
  rw [e.2 k]
  simp only [List.getElem?_toArray, List.getElem?_append, List.length_take, Array.length_toList, List.getElem?_take, List.getElem?_drop, Array.getElem?_toList]
  by_cases h1 : k < off
  · rw [if_neg (by omega), if_pos (by omega), if_pos h1]
  · rw [if_neg (show ¬ k < min off cells.size by omega)]
    rw [show min off cells.size = off from by omega]
    by_cases h2 : k - off < vs.length
    · rw [if_pos (by omega), if_pos h2, Nat.add_zero]
    · rw [if_neg (by omega), if_neg h2, show off + size + (k - off - vs.length) = k from by omega]
theorem built_rec (x c : List UInt8) (A : Option Addr) (n cap : Nat) (hx : x.length = 16) (hc : c.length = 16) :
    Try.prog.built 26 [(0, .agg (cellsB x).toArray), (1, .agg (cellsB c).toArray), (2, .slice A n cap)] = some (recC x c A n cap).toArray := by
  have hxl : (cellsB x).length = 16 := by rw [cellsB_length, hx]
  have hcl : (cellsB c).length = 16 := by rw [cellsB_length, hc]
  have e : Try.prog.built 26 [(0, .agg (cellsB x).toArray), (1, .agg (cellsB c).toArray), (2, .slice A n cap)] = Instr.fill ((#[(0, 16), (16, 16), (32, 1)] : Array (Nat × Nat))[·]?) (recC zeroK zeroK none 0 0).toArray [(0, .agg (cellsB x).toArray), (1, .agg (cellsB c).toArray), (2, .slice A n cap)] := by kernel_rfl
  rw [e]
  obtain ⟨z, hz', hz⟩ : ∃ z : Array Value, (recC zeroK zeroK none 0 0).toArray = z ∧ z.size = 33 := ⟨_, rfl, rfl⟩
  rw [hz']
  rw [fill_step _ z 0 0 16 _ (cellsB x) _ rfl rfl hxl (by omega)]
  have s1 : (z.toList.take 0 ++ (cellsB x ++ z.toList.drop (0 + 16))).length = 33 := by simp [hxl, hz]
  rw [fill_step _ _ 1 16 16 _ (cellsB c) _ rfl rfl hcl (by rw [List.size_toArray, s1]; omega)]
  have s2 : (((z.toList.take 0 ++ (cellsB x ++ z.toList.drop (0 + 16))).toArray.toList.take 16 ++ (cellsB c ++ (z.toList.take 0 ++ (cellsB x ++ z.toList.drop (0 + 16))).toArray.toList.drop (16 + 16)))).length = 33 := by simp [hxl, hcl, hz]
  rw [fill_step _ _ 2 32 1 _ [.slice A n cap] _ rfl rfl rfl (by rw [List.size_toArray, s2]; omega)]
  rw [Instr.fill]
  refine congrArg (fun l => some (List.toArray l)) ?_
  simp [List.take_append, List.drop_append, List.take_of_length_le, List.drop_of_length_le, hxl, hcl, hz, recC]

theorem free_blk {w : World} {g : Nat} (hf : rowFree w g = true) : ∃ t, Blk w g t (rowAt w g) := by
  unfold rowFree at hf
  unfold Blk rowAt
  split at hf
  · rename_i cs t fr he
    have : fr = (0, 0) := by simpa using hf
    subst this
    exact ⟨t, by rw [he]⟩
  · cases hf
theorem run_storeCells_rec {P : Program} (w : World) (g : Nat) (l : List Value) (hl : l.length = 33) (h1 : l.all (·.oneCell') = true) (h : (rowAt w g).size = 33) (hf : rowFree w g = true) : (storeCells ⟨g, 0, none⟩ l 0).run P w = .ok () (w.setRow g l.toArray) := by
  obtain ⟨t, he⟩ := free_blk hf
  exact run_storeCells_from (P := P) g t l 0 _ w he (by omega) (fun v hv => List.all_eq_true.1 h1 v hv)
theorem zero33 : (#[.int .u8 0, .int .u8 0, .int .u8 0, .int .u8 0, .int .u8 0, .int .u8 0, .int .u8 0, .int .u8 0, .int .u8 0, .int .u8 0, .int .u8 0, .int .u8 0, .int .u8 0, .int .u8 0, .int .u8 0, .int .u8 0, .int .u8 0, .int .u8 0, .int .u8 0, .int .u8 0, .int .u8 0, .int .u8 0, .int .u8 0, .int .u8 0, .int .u8 0, .int .u8 0, .int .u8 0, .int .u8 0, .int .u8 0, .int .u8 0, .int .u8 0, .int .u8 0, .slice none 0 0] : Array Value) = (recC zeroK zeroK none 0 0).toArray := rfl
theorem recC_all (x c : List UInt8) (A : Option Addr) (n cap : Nat) : (recC x c A n cap).all (·.oneCell') = true := by
  rw [List.all_eq_true]
  intro v hv
  rw [recC, List.mem_append, List.mem_append] at hv
  rcases hv with hv | hv | hv
  · exact cells_one x v hv
  · exact cells_one c v hv
  · rw [List.mem_singleton] at hv; subst hv; rfl
section
variable {P : Program} {md : Region.Mode} {ops : Array Oper} {Q : Exit → Act → World → Prop} {S : World → Prop} {fuel : Nat} {listed : Array Bool} {a : Act} {w : World}
/-- A value is made of its parts. -/
theorem hd_build (i : Nat) {oi : Oper} (t : TypeId) (parts : Array (Nat × Operand)) (vs : List (Nat × Value)) (cells : Array Value) (hi : ops[i]? = some oi) (ho : oi.op = .build t parts) (hg : oi.guard = none)
    (hs : Region.noSelect ops = true) (hf : Region.free md ops listed i = true) (hr : (Region.ready md ops listed).contains i = true) (hQ : ∀ c a w, Q (.panic c) (a.put oi.dst (.agg cells)) w → Q (.panic c) a w)
    (hv : (parts.map fun (i, x) => (i, a.eval x)).toList = vs) (hb : P.built t vs = some cells) (hw : S w)
    (h : wpAnyH P md ops Q S fuel (listed.setIfInBounds i true) (a.put oi.dst (.agg cells)) w) : wpAnyH P md ops Q S (fuel + 1) listed a w :=
  hd_take i (.agg cells) hi hg hs hf hr hQ (fun w _ => by
    unfold execOp
    rw [ho]
    simp only [Sem.run_bind, run_build w t _ cells (by rw [hv]; exact hb), Result.andThen_ok]
    rfl) hw h
theorem hd_build3 (i : Nat) {oi : Oper} (t : TypeId) (v0 v1 v2 : Value) (cells : Array Value) (x0 x1 x2 : Operand) (hi : ops[i]? = some oi) (ho : oi.op = .build t #[(0, x0), (1, x1), (2, x2)]) (hg : oi.guard = none)
    (hs : Region.noSelect ops = true) (hf : Region.free md ops listed i = true) (hr : (Region.ready md ops listed).contains i = true) (hQ : ∀ c a w, Q (.panic c) (a.put oi.dst (.agg cells)) w → Q (.panic c) a w)
    (h0 : a.eval x0 = v0) (h1 : a.eval x1 = v1) (h2 : a.eval x2 = v2) (hb : P.built t [(0, v0), (1, v1), (2, v2)] = some cells) (hw : S w)
    (h : wpAnyH P md ops Q S fuel (listed.setIfInBounds i true) (a.put oi.dst (.agg cells)) w) : wpAnyH P md ops Q S (fuel + 1) listed a w :=
  hd_build i t _ _ cells hi ho hg hs hf hr hQ (by simp [h0, h1, h2]) hb hw h
end
theorem OB.low {B : Nat} {w : World} {A : Option Addr} {c : Nat} {l : List UInt8} (h : OB B w A c l) {g : Nat} (hg : g < B) (cs : Array Value) : OB B (w.setRow g cs) A c l :=
  ⟨h.1, h.2.elim Or.inl (fun ⟨g', cap, cur, hv, hB, hh, r⟩ => Or.inr ⟨g', cap, cur, hv, hB, by rw [← hh]; exact setRow_other w g g' cs (by omega), r⟩)⟩
end Go.Proofs.Ytinpiodfpnbllaa

/- A list of one key, made. -/
namespace Go.Proofs.Ytinpiodfpnbllaa
open Go.RowKit
set_option linter.unusedVariables false

theorem run_build_key (w : World) (k : List UInt8) (hk : k.length = 16) : (Instr.buildSlice 40 1 #[(0, .agg (cellsB k).toArray)]).run Try.prog w = .ok (.slice (some ⟨w.heap.size, 0, none⟩) 1 1) (w.alloc (.cells (cellsB k).toArray 23)) := by
  obtain ⟨i0, hi0, hz0, hz1, hz2⟩ := info_parts key_info3
  have hl : (cellsB k).length = 16 := by rw [cellsB_length, hk]
  refine run_buildSlice (P := Try.prog) w 40 23 1 #[(0, .agg (cellsB k).toArray)] (cellsB k).toArray i0 (.agg (cellsB zeroK).toArray) Try.underlying40 hi0 hz0 (by rw [hz1]; omega) (by rw [hz1]; omega) ?_
  rw [hz1]
  obtain ⟨z, hz, hzs⟩ : ∃ z, Array.map (fun x => (Value.agg (cellsB zeroK).toArray).cells[x % (Value.agg (cellsB zeroK).toArray).cells.size]!) (Array.range (1 * 16)) = z ∧ z.size = 16 := ⟨_, rfl, by simp⟩
  rw [hz]
  rw [show (#[(0, Value.agg (cellsB k).toArray)] : Array (Nat × Value)).toList = [(0, .agg (cellsB k).toArray)] from rfl, fill_step _ z 0 0 16 _ (cellsB k) _ rfl rfl hl (by omega), Instr.fill]
  refine congrArg (fun l => some (List.toArray l)) ?_
  simp [List.drop_of_length_le, hzs]
theorem op_buildKey {ops : Array Oper} {Q : Exit → Act → World → Prop} {a : Act} {w : World} {i : Nat} {oi : Oper} {K : Act → World → Prop} (k : List UInt8) (x : Operand) (hk : k.length = 16) (hi : ops[i]? = some oi) (ho : oi.op = .buildSlice 40 1 #[(0, x)]) (hg : oi.guard = none) (hx : a.eval x = .agg (cellsB k).toArray)
    (h : K (a.put oi.dst (.slice (some ⟨w.heap.size, 0, none⟩) 1 1)) (w.alloc (.cells (cellsB k).toArray 23))) : wpOp Try.prog ops Q i K a w :=
  op_run _ _ hi hg (by
    unfold execOp
    rw [ho]
    simp only [List.map_toArray, List.map_cons, List.map_nil, hx, Sem.run_bind, run_build_key w k hk, Result.andThen_ok]
    rfl) h
end Go.Proofs.Ytinpiodfpnbllaa

/- A region that draws its order, whose operations only read but for one that waits for all the others (a store at the end): one walk of the text's order, then the last one. -/
namespace Go.Proofs.Ytinpiodfpnbllaa
open Go.RowKit
set_option linter.unusedVariables false

section
variable {P : Program} {ops : Array Oper} {md : Region.Mode} {C : World → Prop}

/-- Operation m waits for each other one that has not come up yet. -/
def waitsAll (md : Region.Mode) (ops : Array Oper) (m : Nat) (listed : Array Bool) : Prop := ∀ s, ops[m]? = some s → ∀ k, k ≠ m → listed.getD k true = false → ∃ e ∈ s.after, Region.binds md e = true ∧ e.on = k
def waitsAllB (md : Region.Mode) (ops : Array Oper) (m : Nat) (listed : Array Bool) : Bool := match ops[m]? with
  | none => true
  | some s => (List.range listed.size).all fun k => k == m || listed.getD k true || s.after.any fun e => Region.binds md e && e.on == k
theorem waitsAll_of {m : Nat} {listed : Array Bool} (h : waitsAllB md ops m listed = true) : waitsAll md ops m listed := by
  intro s hs k hk hl
  unfold waitsAllB at h
  rw [hs] at h
  have hlt : k < listed.size := by
    rcases Nat.lt_or_ge k listed.size with h' | h'
    · exact h'
    · simp [Array.getD, Nat.not_lt.2 h'] at hl
  have := List.all_eq_true.1 h k (List.mem_range.2 hlt)
  rw [hl] at this
  simp only [Bool.or_false, Bool.or_eq_true, beq_iff_eq] at this
  rcases this with h1 | h1
  · exact absurd h1 hk
  · obtain ⟨e, he, h2⟩ := Array.any_eq_true'.1 h1
    simp only [Bool.and_eq_true, beq_iff_eq] at h2
    exact ⟨e, he, h2.1, h2.2⟩
theorem waitsAll.set {m : Nat} {listed : Array Bool} (h : waitsAll md ops m listed) (j : Nat) : waitsAll md ops m (listed.setIfInBounds j true) := by
  intro s hs k hk hl
  refine h s hs k hk ?_
  by_cases hjk : j = k
  · subst hjk
    rcases Nat.lt_or_ge j listed.size with h' | h'
    · simp [Array.getD, h'] at hl
    · simp [Array.getD, Nat.not_lt.2 h'] at hl
  · rw [getD_set_ne true hjk] at hl; exact hl

/-- Whatever order is picked, up to the last one. -/
def wpAnyE (P : Program) (md : Region.Mode) (ops : Array Oper) (C : World → Prop) (m : Nat) (Q : Act → Prop) : Nat → Array Bool → Act → Prop
  | 0, _, _ => False
  | fuel + 1, listed, a => Region.ready md ops listed ≠ [] ∧ ∀ i ∈ Region.ready md ops listed, if i = m then Q a else qOp P ops C i (wpAnyE P md ops C m Q fuel (listed.setIfInBounds i true)) a

theorem ready_done {m : Nat} {listed : Array Bool} (hm : m ∈ Region.ready md ops listed) (hw : waitsAll md ops m listed) : Region.ready md ops (listed.setIfInBounds m true) = [] := by
  apply List.eq_nil_iff_forall_not_mem.2
  intro i hi
  obtain ⟨hun, oi, hoi, _⟩ := mem_ready.1 hi
  obtain ⟨hmun, om, hom, hall⟩ := mem_ready.1 hm
  by_cases him : i = m
  · subst him
    rcases Nat.lt_or_ge i listed.size with h' | h'
    · simp [Array.getD, h'] at hun
    · simp [Array.getD, Nat.not_lt.2 h'] at hun
  · rw [getD_set_ne true (Ne.symm him)] at hun
    obtain ⟨e, he, hb, hon⟩ := hw om hom i him hun
    have h1 := hall e he hb
    rw [hon] at h1
    rcases Nat.lt_or_ge i listed.size with h' | h'
    · simp [Array.getD, h'] at hun h1
      rw [hun] at h1; cases h1
    · simp [Array.getD, Nat.not_lt.2 h'] at hun

theorem wpAny_of_end {m : Nat} {Q : Act → Prop} {Q' : Exit → Act → World → Prop} (hQ : ∀ a w, C w → Q a → wpOp P ops Q' m (fun a' w' => Q' .normal a' w') a w) : ∀ (fuel : Nat) (listed : Array Bool) (a : Act) (w : World), C w → waitsAll md ops m listed →
    wpAnyE P md ops C m Q fuel listed a → wpAny P md ops Q' fuel listed a w
  | 0, _, _, _, _, _, h => h.elim
  | fuel + 1, listed, a, w, hw, hI, h => ⟨fun h0 => absurd h0 h.1, fun i hi => by
    have h2 := h.2 i hi
    by_cases him : i = m
    · subst him
      rw [if_pos rfl] at h2
      have h3 := hQ a w hw h2
      have hd := ready_done hi hI
      have hk : ∀ a' w', Q' .normal a' w' → wpAny P md ops Q' fuel (listed.setIfInBounds i true) a' w' := fun a' w' hq => by
        cases fuel with
        | zero => exact ⟨hd, hq⟩
        | succ f => exact ⟨fun _ => hq, fun j hj => by rw [hd] at hj; cases hj⟩
      unfold wpOp at h3 ⊢
      split
      · rename_i ho; simp only [ho] at h3; exact hk _ _ h3
      · rename_i o ho
        simp only [ho] at h3
        split
        · rename_i hwt; simp only [hwt, if_true] at h3; exact h3.imp (Oper.wp_mono hk) id
        · rename_i hwt; simp only [hwt] at h3; exact hk _ _ h3
    · rw [if_neg him] at h2
      exact wpOp_of_qOp hw (fun a' w' hw' => wpAny_of_end hQ fuel _ a' w' hw' (hI.set i)) h2⟩

theorem wpAnyE_first {m : Nat} {Q : Act → Prop} {i : Nat} {oi : Oper} {v : Value} (him : i ≠ m) (hi : ops[i]? = some oi) (hsel : ∀ (j : Nat) (o : Oper) cs b, ops[j]? = some o → o.op ≠ .select cs b) :
    ∀ (fuel : Nat) (listed : Array Bool) (a : Act), waitsAll md ops m listed →
      (∀ j oj, ops[j]? = some oj → j ≠ i → listed.getD j true = false → (∀ e ∈ oj.after, Region.binds md e = true → e.on ≠ i) → oi.apart ops oj = true) →
      i ∈ Region.ready md ops listed → YieldsIn P ops C oi v a →
      wpAnyE P md ops C m Q fuel (listed.setIfInBounds i true) (a.put oi.dst v) → wpAnyE P md ops C m Q (fuel + 1) listed a := by
  intro fuel
  induction fuel with
  | zero => intro listed a _ _ _ _ H; exact H.elim
  | succ fuel ih =>
    intro listed a hI hfree hr hy H
    refine ⟨fun h => (by rw [h] at hr; cases hr), fun j hj => ?_⟩
    by_cases hji : j = i
    · subst hji; rw [if_neg him]; exact hy.qOp hi H
    · have h1 := H.2 j (ready_mono hj hji)
      obtain ⟨hjun, oj, hoj, hall⟩ := mem_ready.1 hj
      have hnot : ∀ e ∈ oj.after, Region.binds md e = true → e.on ≠ i := fun e he hb heq => by
        have h1 := hall e he hb
        have h0 := (mem_ready.1 hr).1
        rw [heq] at h1
        rcases Nat.lt_or_ge i listed.size with h' | h'
        · simp [h'] at h0 h1; rw [h0] at h1; cases h1
        · simp [Array.getElem?_eq_none h'] at h1
      by_cases hjm : j = m
      · subst hjm
        obtain ⟨e, he, hb, hon⟩ := hI oj hoj i him (mem_ready.1 hr).1
        exact absurd hon (hnot e he hb)
      · rw [if_neg hjm] at h1 ⊢
        have h2 := qOp_put hoj (hfree j oj hoj hji hjun hnot) (fun cs b => hsel i oi cs b hi) (fun cs b => hsel j oj cs b hoj) hy h1
        have hfree' : ∀ k ok, ops[k]? = some ok → k ≠ i → (listed.setIfInBounds j true).getD k true = false →
            (∀ e ∈ ok.after, Region.binds md e = true → e.on ≠ i) → oi.apart ops ok = true := fun k ok hk hki hun hno => by
          refine hfree k ok hk hki ?_ hno
          by_cases hjk : j = k
          · subst hjk; exact hjun
          · rw [getD_set_ne true hjk] at hun; exact hun
        refine qOp_mono (fun a' h3 => ih (listed.setIfInBounds j true) a' (hI.set j) hfree' (ready_mono hr (Ne.symm hji)) h3.1 ?_) h2
        rw [Array.setIfInBounds_comm _ _ hji]
        exact h3.2

/-- The text's order, up to the last one, by a Bool. -/
def lexTo (md : Region.Mode) (ops : Array Oper) (m : Nat) : Nat → Nat → Array Bool → Bool
  | 0, _, listed => (Region.ready md ops listed) == [m]
  | fuel + 1, k, listed => k != m && (Region.ready md ops listed).contains k && Region.free md ops listed k && lexTo md ops m fuel (k + 1) (listed.setIfInBounds k true)

theorem wpAnyE_lex {m : Nat} {Q : Act → Prop} (hs : Region.noSelect ops = true) : ∀ (l : List Oper) (k : Nat) (listed : Array Bool) (a : Act), (∀ j, j < l.length → l[j]? = ops[k + j]?) → waitsAll md ops m listed →
    lexTo md ops m l.length k listed = true → wpQuiet P ops C Q l a → wpAnyE P md ops C m Q (l.length + 1) listed a
  | [], _, listed, _, _, _, hB, h => by
    have hr : Region.ready md ops listed = [m] := by simpa [lexTo] using hB
    exact ⟨by rw [hr]; simp, fun i hi => by rw [hr, List.mem_singleton] at hi; rw [if_pos hi]; exact h⟩
  | o :: l, k, listed, a, hl, hI, hB, h => by
    have h0 : ops[k]? = some o := by simpa using (hl 0 (by simp)).symm
    simp only [List.length_cons, lexTo, Bool.and_eq_true, bne_iff_ne, ne_eq] at hB
    obtain ⟨⟨⟨hkm, hr⟩, hf⟩, hB'⟩ := hB
    have hst : qOp P ops C k (wpQuiet P ops C Q l) a := by unfold qOp; simp only [h0]; exact h
    obtain ⟨v, hy, hK⟩ := yieldsIn_of_qOp h0 hst
    exact wpAnyE_first hkm h0 (Region.noSelect_spec hs) (l.length + 1) listed a hI (Region.free_spec h0 hf) (by simpa using hr) hy
      (wpAnyE_lex hs l (k + 1) _ _ (fun j hj => by have := hl (j + 1) (by simp; omega); simpa [Nat.add_assoc, Nat.add_comm 1 j] using this) (hI.set k) hB' hK)

/-- From a state in which some have come up already: the text's order up to operation m, then m. -/
theorem wpAny_end {m : Nat} {Q' : Exit → Act → World → Prop} {listed : Array Bool} {a : Act} {w : World} (l : List Oper) {fuel : Nat} (hf : fuel = l.length + 1) (hs : Region.noSelect ops = true) (hl : ops.toList.take l.length = l) (hI : waitsAllB md ops m listed = true) (hB : lexTo md ops m l.length 0 listed = true) (hC : C w)
    (h : wpQuiet P ops C (fun a' => ∀ w', C w' → wpOp P ops Q' m (fun a'' w'' => Q' .normal a'' w'') a' w') l a) : wpAny P md ops Q' fuel listed a w := by
  subst hf
  refine wpAny_of_end (fun a w hw hq => hq w hw) _ _ _ _ hC (waitsAll_of hI) (wpAnyE_lex hs l 0 listed a (fun j hj => ?_) (waitsAll_of hI) hB h)
  rw [Nat.zero_add, ← Array.getElem?_toList, ← hl, List.getElem?_take]
  have hj' := hj
  rw [← hl, List.length_take] at hj'
  simp [hj]
theorem wpOp_of_wp {Q : Exit → Act → World → Prop} {m : Nat} {o : Oper} {K : Act → World → Prop} {a : Act} {w : World} (ho : ops[m]? = some o) (hg : o.guard = none) (h : o.wp P a w K Q) : wpOp P ops Q m K a w := by
  unfold wpOp
  have hw : Region.wanted o (yielded ops a.tmps) = true := by simp [Region.wanted, hg]
  simp only [ho, hw, if_true]
  exact .inl h
/-- The last operation waits for all the others. -/
theorem wp_region_last {id : Nat} (m : Nat) {Q : Exit → Act → World → Prop} {a : Act} {w : World} (hm : P.follows .mixedOrders = true) (hsz : ops.size = m + 1) (hs : Region.noSelect ops = true) (hI : waitsAllB .any ops m (Array.replicate ops.size false) = true) (hB : lexTo .any ops m m 0 (Array.replicate ops.size false) = true) (hC : C w.drew)
    (h : wpQuiet P ops C (fun a' => ∀ w', C w' → wpOp P ops Q m (fun a'' w'' => Q .normal a'' w'') a' w') (ops.toList.take m) a) : (Code.region id ops true).wp P Q a w := by
  have hl : (ops.toList.take m).length = m := by rw [List.length_take, Array.length_toList, hsz]; omega
  exact wp_region_any hm (wpAny_end (C := C) (m := m) (ops.toList.take m) (by rw [hl, hsz]) hs (by rw [hl]) hI (by rw [hl]; exact hB) hC h)
theorem wpOp_store {Q : Exit → Act → World → Prop} {m : Nat} {o : Oper} {K : Act → World → Prop} {a : Act} {w : World} (g : Nat) (cells : Array Value) (ty : TypeId) (x y : Operand) (hi : ops[m]? = some o) (ho : o.op = .store ty x y) (hg : o.guard = none)
    (hx : a.eval x = .pointer (some ⟨g, 0, none⟩)) (hy : a.eval y = .agg cells) {t : TypeId} {old : Array Value} (hb : w.heap[g]? = some (.cells old t (0, 0))) (hn : (P.info? ty).map (·.size) = some cells.size) (hold : old.size = cells.size) (h1 : cells.all (·.oneCell') = true)
    (h : K (a.put o.dst undef) (w.setRow g cells)) : wpOp P ops Q m K a w :=
  wpOp_of_wp hi hg (wp_store_row ty x y ho g cells hx hy t old hb hn hold h1 h)
end
end Go.Proofs.Ytinpiodfpnbllaa

/- A list of keys that the call owns, turned round. -/
namespace Go.Proofs.Ytinpiodfpnbllaa
open Go.RowKit Go.Sort
set_option linter.unusedVariables false

def encK (k : List UInt8) : List Value := cellsB (padK k)
theorem encK_length (k : List UInt8) : (encK k).length = 16 := by rw [encK, cellsB_length, padK_length]
theorem encK_16 {k : List UInt8} (h : k.length = 16) : encK k = cellsB k := by rw [encK, padK_16 h]
theorem flatK_keys {ks : List (List UInt8)} (h : Keys16 ks) : flatK encK 16 ks.toArray = (cellsK ks).toArray := by
  have hl := cellsK_length h
  refine ext_get! (by simp [hl]) fun t ht => ?_
  have ht' : t < ks.length * 16 := by simpa using ht
  have hi : t / 16 < ks.length := by omega
  have hk : ks[t / 16].length = 16 := h _ (List.getElem_mem hi)
  rw [get_flatK _ _ _ _ (by simpa using ht')]
  have e1 : ks.toArray[t / 16]! = ks[t / 16] := by rw [getElem!_pos ks.toArray (t / 16) (by simpa using hi)]; simp
  have hm : t % 16 < (cellsB ks[t / 16]).length := by rw [cellsB_length, hk]; omega
  rw [e1, encK_16 hk, getElem!_pos (cellsB ks[t / 16]) (t % 16) hm, getElem!_pos (cellsK ks).toArray t (by simp [hl]; omega)]
  have h1 := cellsK_drop h (t / 16) (by omega)
  have h2 : ((cellsK ks).drop (t / 16 * 16))[t % 16]? = (cellsB ks[t / 16])[t % 16]? := by
    rw [h1, List.drop_eq_getElem_cons hi]
    unfold cellsK
    rw [List.flatMap_cons, List.getElem?_append_left hm]
  rw [List.getElem?_drop, show t / 16 * 16 + t % 16 = t by omega, List.getElem?_eq_getElem (by omega), List.getElem?_eq_getElem hm] at h2
  simpa using (Option.some.inj h2).symm
theorem Keys16.reverse {ks : List (List UInt8)} (h : Keys16 ks) : Keys16 ks.reverse := fun k hk => h k (List.mem_reverse.1 hk)

theorem holds_of_OK16 {B : Nat} {w : World} {A : Option Addr} {c : Nat} {ks : List (List UInt8)} (h : OK16 B w A c ks) (hk : Keys16 ks) (h0 : ks ≠ []) : ∃ g, A = some ⟨g, 0, none⟩ ∧ B ≤ g ∧ g < w.heap.size ∧ HoldsK encK 16 w g 0 ks.toArray := by
  rcases h.2 with ⟨_, e0⟩ | ⟨g, cap, cur, e0, hb, hg, hn, hm, hs, ht⟩
  · exact absurd (List.eq_nil_of_length_eq_zero e0) h0
  · injection e0 with e1 _ e3
    subst e3
    have hlt : g < w.heap.size := by
      rcases Nat.lt_or_ge g w.heap.size with h' | h'
      · exact h'
      · rw [Array.getElem?_eq_none h'] at hg; cases hg
    refine ⟨g, e1, hb, hlt, ?_⟩
    unfold HoldsK
    rw [flatK_keys hk]
    intro j hj
    have hl := cellsK_length hk
    have hj' : j < ks.length * 16 := by simpa [hl] using hj
    refine ⟨?_, by simp [World.frozen?, hg]⟩
    have e2 : (cur.toList.take (ks.length * 16))[j]? = (cellsK ks)[j]? := by rw [ht]
    rw [List.getElem?_take, if_pos (by omega), Array.getElem?_toList, List.getElem?_eq_getElem (by omega)] at e2
    simp only [World.cell?, hg, Nat.zero_add]
    simp only [Option.isSome_none, Bool.false_eq_true, if_false]
    rw [e2, getElem!_pos _ j (by simpa using hj)]
    simp
theorem OK16.put {B : Nat} {w : World} {g c q : Nat} {ks ys : List (List UInt8)} (h : OK16 B w (some ⟨g, 0, none⟩) c ks) (hk : Keys16 ys) (hl : ys.length = ks.length) : OK16 B (putRowK encK 16 (Sort.ahead w q) g 0 ys.toArray) (some ⟨g, 0, none⟩) c ys := by
  have hcl := cellsK_length hk
  refine ⟨hcl, .inr ?_⟩
  rcases h.2 with ⟨e0, _⟩ | ⟨g', cap', cur, e0, hb, hg, hn, hm, hs, ht⟩
  · cases e0
  · injection e0 with e1 _ e3
    injection e1 with e1
    injection e1 with e1
    subst e1; subst e3
    refine ⟨g, c, putCells id 0 (cellsK ys).toArray cur, rfl, hb, ?_, by omega, hm, by simpa [putCells] using hs, ?_⟩
    · unfold putRowK
      rw [flatK_keys hk]
      simp [putRow, mapBlock, Sort.ahead, Array.getElem?_modify, hg, onCells]
    · apply List.ext_getElem?
      intro j
      rw [List.getElem?_take, Array.getElem?_toList]
      by_cases hj : j < ys.length * 16
      · have hjc : j < cur.size := by omega
        simp only [if_pos hj, putCells, Array.getElem?_mapIdx, Array.getElem?_eq_getElem hjc, Option.map_some]
        rw [if_pos (by simp [hcl]; omega), List.getElem?_eq_getElem (by omega)]
        simp [getElem!_pos, show j < (cellsK ys).length by omega]
      · rw [if_neg hj, List.getElem?_eq_none (by omega)]
theorem below_putK {B : Nat} {w0 w : World} {g q : Nat} {d : Array (List UInt8)} (h : Below B w0 w) (hg : B ≤ g) : Below B w0 (putRowK encK 16 (Sort.ahead w q) g 0 d) := Lib.below_putRow h hg

theorem cells_holdsK {enc : List UInt8 → List Value} {k : Nat} {W : World} {blk off : Nat} {d : Array (List UInt8)} (h : HoldsK enc k W blk off d) (hk : ∀ x, (enc x).length = k) {i : Nat} (hi : i < d.size) :
    ∀ c v, (enc d[i]!)[c]? = some v → W.cell? ((⟨blk, off + i * k, none⟩ : Addr).add c) = some v := fun c v hv => by
  have hc : c < k := by have := (List.getElem?_eq_some_iff.1 hv).1; rwa [hk] at this
  rw [Addr.add_lit, (h.cell hi hc).1, getElem!_pos (enc d[i]!) c (by rw [hk]; exact hc)]
  rw [List.getElem?_eq_getElem (by rw [hk]; exact hc)] at hv
  exact hv
theorem stores_holds (P : Program) {W : World} {blk off : Nat} {F : Array Value} (h : Holds id W blk off F) (s : Nat) (vs : List Value) (hs : s + vs.length ≤ F.size) (h1 : ∀ v ∈ vs, v.oneCell' = true) :
    Sem.run P (storeCells ⟨blk, off + s, none⟩ vs 0) W = .ok () (W.setCells blk (off + s) vs) := by
  have := run_storeCells_cells (P := P) blk (off + s) vs 0 W (fun c hc => by rw [Nat.add_zero, Nat.add_assoc, (h (s + c) (by omega)).1]; rfl) (fun c hc => by rw [Nat.add_zero, Nat.add_assoc]; exact (h (s + c) (by omega)).2) h1
  rwa [Nat.add_zero] at this
theorem run_loadFrom (P : Program) (W : World) (a : Addr) (cs : List Value) (k : Nat) (hk : cs.length = k) (h : ∀ j v, cs[j]? = some v → W.cell? (a.add j) = some v) :
    Sem.run P (loadCellsFrom a 0 k #[]) W = .ok cs.toArray W := by
  have := run_loadCells_list (P := P) (w := W) a cs h
  rw [hk] at this
  simpa [loadCells] using this

section
variable {P : Program} {md : Region.Mode} {ops : Array Oper} {Q : Exit → Act → World → Prop} {S : World → Prop} {fuel : Nat} {listed : Array Bool} {a : Act} {w : World} {K : Act → World → Prop}
/-- A load of a part of a row, at its turn. -/
theorem op_load_mid (i : Nat) {oi : Oper} (g o : Nat) (cs : List Value) (ty : TypeId) (x : Operand) {d : TypeDesc} (hi : ops[i]? = some oi) (ho : oi.op = .load ty x) (hg : oi.guard = none)
    (hx : a.eval x = .pointer (some ⟨g, o, none⟩)) (hc : w.rangeAt g o cs) (hu : P.underlying ty = some d) (hd : d.isRow = true) (hn : (P.info? ty).map (·.size) = some cs.length)
    (h : K (a.put oi.dst (.agg cs.toArray)) w) : wpOp P ops Q i K a w :=
  wpOp_of_wp hi hg (wp_load_mid ty x ho g o hx cs d hc hu hd hn h)
/-- A store into a part of a row, at its turn. -/
theorem op_store_mid (i : Nat) {oi : Oper} (g o : Nat) (cells : Array Value) (ty : TypeId) (x y : Operand) (hi : ops[i]? = some oi) (ho : oi.op = .store ty x y) (hg : oi.guard = none)
    (hx : a.eval x = .pointer (some ⟨g, o, none⟩)) (hy : a.eval y = .agg cells) (ht : w.there g o cells.size) (hn : (P.info? ty).map (·.size) = some cells.size) (h1 : cells.all (·.oneCell') = true)
    (h : K (a.put oi.dst undef) (w.setCells g o cells.toList)) : wpOp P ops Q i K a w :=
  wpOp_of_wp hi hg (wp_store_mid ty x y ho g o cells hx hy ht hn h1 h)
end

theorem info16 {l : List Value} (h : l.length = 16) : (Try.prog.info? 23).map (·.size) = some l.length := by rw [h]; kernel_rfl
set_option maxHeartbeats 4000000 in
set_option maxRecDepth 1000000 in
theorem reverse_row (blk off cap : Nat) (d : Array (List UInt8)) (w : World) (hH : HoldsK encK 16 w blk off d) (hsz : d.size ≤ 140737488351232) :
    Calls Try.prog 73 #[.slice (some ⟨blk, off, none⟩) d.size cap] w fun e w' => e = .returned (.tuple #[]) ∧ ∃ n, w' = putRowK encK 16 (Sort.ahead w n) blk off d.reverse := by
  have h1 : ∀ x, ∀ v ∈ encK x, v.oneCell' = true := fun x => cells_one _
  have hk := encK_length
  have mixed : Try.prog.follows Departure.mixedOrders = true := by kernel_rfl
  go_enter Try.func73, Try.ntmps73
  go_wp2_with fail
  go_loopg [2, 3] d.size (fun kk s2 s3 wr => ∃ (i jn : Nat) (jz : Int) (dk : Array (List UInt8)) (n : Nat), s2 = .int .i64 i ∧ s3 = .int .i64 jz ∧ ((i : Int) < jz → jz = jn ∧ jn < d.size) ∧ (¬ (i : Int) < jz → ¬ i < jn) ∧ jn - i ≤ kk ∧
    dk.size = d.size ∧ wr = putRowK encK 16 (Sort.ahead w n) blk off dk ∧ reverseLoop i jn dk = reverseLoop 0 (d.size - 1) d)
  case atStart => exact ⟨0, d.size - 1, (d.size : Int) - 1, d, 0, rfl, rfl, fun h => ⟨by omega, by omega⟩, fun h => by omega, by omega, rfl, (putRowK_self encK 16 w blk off d hH).symm, rfl⟩
  case round =>
    obtain ⟨i, jn, jz, dk, n, rfl, rfl, h1', h2, hkk, hds, hwr, heq⟩ := hrel
    by_cases hlt : (i : Int) < jz
    · obtain ⟨rfl, hjn⟩ := h1' hlt
      have hij : i < jn := by omega
      have hHd : HoldsK encK 16 wr.drew blk off dk := by rw [hwr]; exact holdsK_putRowK encK 16 _ blk off d dk (holdsK_ahead encK 16 w (n + 1) blk off d hH) hds
      have HLI : Hid (wr.drew.rangeAt blk (off + i * 16) (encK dk[i]!)) := fun j v hv => by have := cells_holdsK hHd hk (i := i) (by omega) j v hv; rwa [Addr.add_mid] at this
      have HLJ : Hid (wr.drew.rangeAt blk (off + jn * 16) (encK dk[jn]!)) := fun j v hv => by have := cells_holdsK hHd hk (i := jn) (by omega) j v hv; rwa [Addr.add_mid] at this
      have HT1 : Hid (wr.drew.there blk (off + i * 16) 16) := fun j hj => by have := hHd.cell (i := i) (c := j) (by omega) hj; exact ⟨by rw [this.1]; rfl, this.2⟩
      have HT2 : Hid (wr.drew.there blk (off + jn * 16) 16) := fun j hj => by have := hHd.cell (i := jn) (c := j) (by omega) hj; exact ⟨by rw [this.1]; rfl, this.2⟩
      have A : Aside (wr = putRowK encK 16 (Sort.ahead w n) blk off dk) := hwr
      have HOI : Hid (∀ v ∈ encK dk[i]!, v.oneCell' = true) := h1 _
      have HOJ : Hid (∀ v ∈ encK dk[jn]!, v.oneCell' = true) := h1 _
      have HSI : Hid ((encK dk[i]!).length = 16) := hk _
      have HSJ : Hid ((encK dk[jn]!).length = 16) := hk _
      have hni : (d.size : Int) ≤ 140737488351232 := by omega
      have hji : (jn : Int) < d.size := by omega
      have hnid : i < d.size := by omega
      have hnii : ¬ d.size ≤ i := by omega
      have hnij : ¬ d.size ≤ jn := by omega
      have hll : (i : Int) < d.size := by omega
      clear hwr hHd hH h1' h2 h1 hk
      obtain ⟨ci, hci⟩ : ∃ c, c = encK dk[i]! := ⟨_, rfl⟩
      obtain ⟨cj, hcj⟩ : ∃ c, c = encK dk[jn]! := ⟨_, rfl⟩
      rw [← hci] at HLI HOI HSI
      rw [← hcj] at HLJ HOJ HSJ
      have CI : Hid (ci = encK dk[i]! ∧ cj = encK dk[jn]!) := ⟨hci, hcj⟩
      clear hci hcj
      go_wp2_with fail
      refine wp_region_noPanic ?_
      refine wp_region_held_drew (S := fun _ => True) (by kernel_rfl) trivial (fun hS => ?_)
      refine hd_take 0 (.slice (some ⟨blk, off, none⟩) d.size cap) rfl rfl (by kernel_rfl) (by kernel_rfl) (by kernel_rfl) (fun _ _ _ h => h) (fun w _ => by go_simp) hS ?_
      refine hd_take 1 (.int .i64 (i : Int)) rfl rfl (by kernel_rfl) (by kernel_rfl) (by kernel_rfl) (fun _ _ _ h => h) (fun w _ => by go_simp) hS ?_
      refine hd_take 2 (.slice (some ⟨blk, off, none⟩) d.size cap) rfl rfl (by kernel_rfl) (by kernel_rfl) (by kernel_rfl) (fun _ _ _ h => h) (fun w _ => by go_simp) hS ?_
      refine hd_take 3 (.int .i64 (jn : Int)) rfl rfl (by kernel_rfl) (by kernel_rfl) (by kernel_rfl) (fun _ _ _ h => h) (fun w _ => by go_simp) hS ?_
      refine hd_take 4 (.slice (some ⟨blk, off, none⟩) d.size cap) rfl rfl (by kernel_rfl) (by kernel_rfl) (by kernel_rfl) (fun _ _ _ h => h) (fun w _ => by go_simp) hS ?_
      refine hd_take 5 (.int .i64 (jn : Int)) rfl rfl (by kernel_rfl) (by kernel_rfl) (by kernel_rfl) (fun _ _ _ h => h) (fun w _ => by go_simp) hS ?_
      refine hd_take 8 (.slice (some ⟨blk, off, none⟩) d.size cap) rfl rfl (by kernel_rfl) (by kernel_rfl) (by kernel_rfl) (fun _ _ _ h => h) (fun w _ => by go_simp) hS ?_
      refine hd_take 9 (.int .i64 (i : Int)) rfl rfl (by kernel_rfl) (by kernel_rfl) (by kernel_rfl) (fun _ _ _ h => h) (fun w _ => by go_simp) hS ?_
      simp only [List.getElem_toArray, List.getElem_cons_succ, List.getElem_cons_zero, Act.put, List.setIfInBounds_toArray, List.set_cons_zero, List.set_cons_succ]
      refine hd_take 6 (.pointer (some ⟨blk, off + jn * 16, none⟩)) rfl rfl (by kernel_rfl) (by kernel_rfl) (by kernel_rfl) (fun _ _ _ h => h) (fun w _ => by go_simp) hS ?_
      refine hd_take 10 (.pointer (some ⟨blk, off + i * 16, none⟩)) rfl rfl (by kernel_rfl) (by kernel_rfl) (by kernel_rfl) (fun _ _ _ h => h) (fun w _ => by go_simp) hS ?_
      simp only [List.getElem_toArray, List.getElem_cons_succ, List.getElem_cons_zero, Act.put, List.setIfInBounds_toArray, List.set_cons_zero, List.set_cons_succ]
      refine hd_two 7 11 (by kernel_rfl) (op_load_mid 7 blk (off + jn * 16) cj 23 (.tmp 20) rfl rfl rfl rfl HLJ.out under_key rfl (info16 HSJ.out) ⟨trivial, ?_⟩) (op_load_mid 11 blk (off + i * 16) ci 23 (.tmp 24) rfl rfl rfl rfl HLI.out under_key rfl (info16 HSI.out) ⟨trivial, ?_⟩)
      · simp only [List.getElem_toArray, List.getElem_cons_succ, List.getElem_cons_zero, Act.put, List.setIfInBounds_toArray, List.set_cons_zero, List.set_cons_succ]
        refine hd_sole 11 (by kernel_rfl) (op_load_mid 11 blk (off + i * 16) ci 23 (.tmp 24) rfl rfl rfl rfl HLI.out under_key rfl (info16 HSI.out) ⟨trivial, ?_⟩)
        simp only [List.getElem_toArray, List.getElem_cons_succ, List.getElem_cons_zero, Act.put, List.setIfInBounds_toArray, List.set_cons_zero, List.set_cons_succ]
        refine hd_take 12 (.pointer (some ⟨blk, off + i * 16, none⟩)) rfl rfl (by kernel_rfl) (by kernel_rfl) (by kernel_rfl) (fun _ _ _ h => h) (fun w _ => by go_simp) trivial ?_
        simp only [List.getElem_toArray, List.getElem_cons_succ, List.getElem_cons_zero, Act.put, List.setIfInBounds_toArray, List.set_cons_zero, List.set_cons_succ]
        refine hd_sole 13 (by kernel_rfl) (op_store_mid 13 blk (off + i * 16) cj.toArray 23 (.tmp 26) (.tmp 21) rfl rfl rfl rfl rfl (by rw [List.size_toArray, HSJ.out]; exact HT1.out) (by rw [List.size_toArray]; exact info16 HSJ.out) (all_oneCell_toArray HOJ.out) ⟨trivial, ?_⟩)
        simp only [List.getElem_toArray, List.getElem_cons_succ, List.getElem_cons_zero, Act.put, List.setIfInBounds_toArray, List.set_cons_zero, List.set_cons_succ]
        refine hd_take 14 (.pointer (some ⟨blk, off + jn * 16, none⟩)) rfl rfl (by kernel_rfl) (by kernel_rfl) (by kernel_rfl) (fun _ _ _ h => h) (fun w _ => by go_simp) trivial ?_
        simp only [List.getElem_toArray, List.getElem_cons_succ, List.getElem_cons_zero, Act.put, List.setIfInBounds_toArray, List.set_cons_zero, List.set_cons_succ]
        refine hd_sole 15 (by kernel_rfl) (op_store_mid 15 blk (off + jn * 16) ci.toArray 23 (.tmp 27) (.tmp 25) rfl rfl rfl rfl rfl (by rw [List.size_toArray, HSI.out]; exact World.there_setCells HT2.out _ _ _) (by rw [List.size_toArray]; exact info16 HSI.out) (all_oneCell_toArray HOI.out) ⟨trivial, ?_⟩)
        refine wpAnyH_done (by kernel_rfl) (NoPanic.normal ?_) _
        simp only [List.getElem_toArray, List.getElem_cons_succ, List.getElem_cons_zero, Act.put, List.setIfInBounds_toArray, List.set_cons_zero, List.set_cons_succ]
        go_wp2_with fail
        go_roundg (jn - 1 - (i + 1))
        case measure => omega
        case rel =>
          rw [reverseLoop, if_pos hij] at heq
          refine ⟨i + 1, jn - 1, (jn : Int) - 1, swp dk i jn, n + 1, by simp, rfl, fun h => ⟨by omega, by omega⟩, fun h => by omega, Nat.le_refl _, by rw [size_swp]; exact hds, ?_, heq⟩
          rw [CI.out.1, CI.out.2, A.out]
          exact swap_worldK encK 16 encK_length w n 1 blk off dk i jn (by omega) (by omega)
      · simp only [List.getElem_toArray, List.getElem_cons_succ, List.getElem_cons_zero, Act.put, List.setIfInBounds_toArray, List.set_cons_zero, List.set_cons_succ]
        refine hd_sole 7 (by kernel_rfl) (op_load_mid 7 blk (off + jn * 16) cj 23 (.tmp 20) rfl rfl rfl rfl HLJ.out under_key rfl (info16 HSJ.out) ⟨trivial, ?_⟩)
        simp only [List.getElem_toArray, List.getElem_cons_succ, List.getElem_cons_zero, Act.put, List.setIfInBounds_toArray, List.set_cons_zero, List.set_cons_succ]
        refine hd_take 12 (.pointer (some ⟨blk, off + i * 16, none⟩)) rfl rfl (by kernel_rfl) (by kernel_rfl) (by kernel_rfl) (fun _ _ _ h => h) (fun w _ => by go_simp) trivial ?_
        simp only [List.getElem_toArray, List.getElem_cons_succ, List.getElem_cons_zero, Act.put, List.setIfInBounds_toArray, List.set_cons_zero, List.set_cons_succ]
        refine hd_sole 13 (by kernel_rfl) (op_store_mid 13 blk (off + i * 16) cj.toArray 23 (.tmp 26) (.tmp 21) rfl rfl rfl rfl rfl (by rw [List.size_toArray, HSJ.out]; exact HT1.out) (by rw [List.size_toArray]; exact info16 HSJ.out) (all_oneCell_toArray HOJ.out) ⟨trivial, ?_⟩)
        simp only [List.getElem_toArray, List.getElem_cons_succ, List.getElem_cons_zero, Act.put, List.setIfInBounds_toArray, List.set_cons_zero, List.set_cons_succ]
        refine hd_take 14 (.pointer (some ⟨blk, off + jn * 16, none⟩)) rfl rfl (by kernel_rfl) (by kernel_rfl) (by kernel_rfl) (fun _ _ _ h => h) (fun w _ => by go_simp) trivial ?_
        simp only [List.getElem_toArray, List.getElem_cons_succ, List.getElem_cons_zero, Act.put, List.setIfInBounds_toArray, List.set_cons_zero, List.set_cons_succ]
        refine hd_sole 15 (by kernel_rfl) (op_store_mid 15 blk (off + jn * 16) ci.toArray 23 (.tmp 27) (.tmp 25) rfl rfl rfl rfl rfl (by rw [List.size_toArray, HSI.out]; exact World.there_setCells HT2.out _ _ _) (by rw [List.size_toArray]; exact info16 HSI.out) (all_oneCell_toArray HOI.out) ⟨trivial, ?_⟩)
        refine wpAnyH_done (by kernel_rfl) (NoPanic.normal ?_) _
        simp only [List.getElem_toArray, List.getElem_cons_succ, List.getElem_cons_zero, Act.put, List.setIfInBounds_toArray, List.set_cons_zero, List.set_cons_succ]
        go_wp2_with fail
        go_roundg (jn - 1 - (i + 1))
        case measure => omega
        case rel =>
          rw [reverseLoop, if_pos hij] at heq
          refine ⟨i + 1, jn - 1, (jn : Int) - 1, swp dk i jn, n + 1, by simp, rfl, fun h => ⟨by omega, by omega⟩, fun h => by omega, Nat.le_refl _, by rw [size_swp]; exact hds, ?_, heq⟩
          rw [CI.out.1, CI.out.2, A.out]
          exact swap_worldK encK 16 encK_length w n 1 blk off dk i jn (by omega) (by omega)
    · have hnot := h2 hlt
      go_wp2
      go_end0
      refine ⟨rfl, n, ?_⟩
      rw [reverseLoop, if_neg hnot] at heq
      rw [← Lib.reverseLoop_reverse, ← heq]
theorem reverse_none (w : World) : Calls Try.prog 73 #[.slice none 0 0] w fun e w' => e = .returned (.tuple #[]) ∧ w' = w := by
  go_enter Try.func73, Try.ntmps73
  go_wp2
  go_loopg [2, 3] 0 (fun _ s2 s3 wr => s2 = .int .i64 0 ∧ s3 = .int .i64 (-1) ∧ wr = w)
  case atStart => exact ⟨rfl, rfl, rfl⟩
  case round =>
    obtain ⟨rfl, rfl, rfl⟩ := hrel
    go_wp2
    go_end0
    exact ⟨rfl, rfl⟩
theorem putRowK_nil (w : World) (g : Nat) : putRowK encK 16 w g 0 #[] = w := by
  refine putRowK_self encK 16 w g 0 #[] (fun j hj => ?_)
  simp [flatK] at hj
theorem reverse_any {B : Nat} (ks : List (List UInt8)) (A : Option Addr) (c : Nat) (w : World) {n : Nat} (hn : ks.length = n) (h : OK16 B w A c ks) (hk : Keys16 ks) (hl : n ≤ 140737488351232) :
    Calls Try.prog 73 #[.slice A n c] w fun e w' => e = .returned (.tuple #[]) ∧ OK16 B w' A c ks.reverse ∧ Below B w w' := by
  subst hn
  by_cases h0 : ks = []
  · subst h0
    rcases h.2 with ⟨e, _⟩ | ⟨g, cap, cur, e, hb, hg, hn, hm, hs, ht⟩
    · injection e with e1 e2 e3
      subst e1; subst e3
      refine (reverse_none w).mono ?_
      rintro e w' ⟨rfl, rfl⟩
      exact ⟨rfl, h, Below.refl _ _⟩
    · injection e with e1 e2 e3
      subst e1; subst e3
      refine (reverse_row g 0 c #[] w (fun j hj => by simp [flatK] at hj) (by simp)).mono ?_
      rintro e w' ⟨rfl, q, rfl⟩
      rw [show (#[] : Array (List UInt8)).reverse = #[] from rfl, putRowK_nil]
      exact ⟨rfl, h, ⟨rfl, rfl, rfl, Nat.le_refl _, fun _ _ => rfl⟩⟩
  · obtain ⟨g, rfl, hb, hg, hh⟩ := holds_of_OK16 h hk h0
    refine (reverse_row g 0 c ks.toArray w hh (by simpa using hl)).mono ?_
    rintro e w' ⟨rfl, q, rfl⟩
    rw [show ks.toArray.reverse = ks.reverse.toArray by simp]
    exact ⟨rfl, h.put hk.reverse (by simp), below_putK (Below.refl _ _) hb⟩
end Go.Proofs.Ytinpiodfpnbllaa
