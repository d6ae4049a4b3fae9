/-
  Lemmas and contracts, joined: part 3.
-/
import Derived.Lib.AppendZeros
import Derived.Laws.Cells
import Derived.Lib.SliceRun
import Derived.Test.YtinpiodfpnbllaaSortLay
import Derived.Lib.Small
import Derived.Deep.QuietTactic
import Derived.BigQuiet
import Derived.Shelf.GgSortFunc.RowK
import Derived.Lib.OwnBridge
import Derived.Test.YtinpiodfpnbllaaAuditListsB2
set_option linter.unusedSimpArgs false
set_option linter.unusedVariables false
set_option linter.unnecessarySimpa false
/- The reference's Derive, Number. -/
namespace Go.Proofs.Ytinpiodfpnbllaa
open Go.RowKit
set_option linter.unusedVariables false
attribute [local go_sem] run_storeCells_key

theorem refTag_zero (t : UInt8) (n : UInt64) (w : World) : Calls Try.prog 114 #[.int .u8 (t.toNat : Int), .int .u64 0, .int .u64 (n.toNat : Int)] w fun e w' => e = .returned (.agg (cellsB (tagS t 0 n)).toArray) ∧ Below w.heap.size w w' := refTag_any t 0 n w (by decide)
set_option maxHeartbeats 1000000 in
theorem refDerive_any (k : List UInt8) (t : UInt8) (n : UInt64) (w : World) (hk : k.length = 16) : Calls Try.prog 57 #[.agg (cellsB k).toArray, .int .u8 (t.toNat : Int), .int .u64 (n.toNat : Int)] w fun e w' => e = .returned (.agg (cellsB (derS k t n)).toArray) ∧ Below w.heap.size w w' := by
  have HK := Lib.hid hk
  have HZ := Lib.hid zero16
  have hkl : (cellsB k).length = 16 := by rw [cellsB_length, hk]
  have HE : Hid (derS k t n = encS k (tagS t 0 n)) := rfl
  have hl : (cellsB (encS k (tagS t 0 n))).length = 16 := rfl
  have hall := all16 (encS k (tagS t 0 n))
  clear hk
  go_enter Try.func57, Try.ntmps57
  go_wp2_with fail
  rw [HZ.out]
  go_region_with (first
    | (go_at_call 114; refine (refTag_zero t n _).mono ?_; rintro e w1 ⟨rfl, hb1⟩; have hck : ∀ j, w1.cell? ⟨w.heap.size, j, none⟩ = (cellsB k).toArray[j]? := fun j => ((blk_b0 w (cellsB k).toArray 23 _).drew.below' hb1).cell j)
    | (go_at_call 56; rw [fold16B k HK.out]; refine (refEncrypt_any k (tagS t 0 n) _ HK.out rfl).mono ?_; rintro e w2 ⟨rfl, hb2⟩; have hB2 := ((blk_b1 w (.cells (cellsB k).toArray 23) (cellsB zeroK).toArray 23).drew.below' hb1).below' hb2; have hr2 : (rowAt w2 (w.heap.size + 1)).size = 16 := by { rw [hB2.row]; rfl }; have hf2 := hB2.free; have HB2 := Lib.hid hB2; clear hB2))
  all_goals
    go_wp2_with fail
    exact bodyPost_ret (results_cell_row rfl _ _ (w.heap.size + 1) _ _ (0, 0) _ rfl (HB2.out.setRow (cellsB (encS k (tagS t 0 n))).toArray) under_key rfl (cellsB_size _ rfl)) rfl ⟨by rw [HE.out], below_setRow (((alloc2_bel w _ _).drew.trans (hb1.mono (alloc2_bel w _ _).size)).trans (hb2.mono (Nat.le_trans (alloc2_bel w _ _).size hb1.size))) (by omega) _⟩

end Go.Proofs.Ytinpiodfpnbllaa

/- The reference's portions. -/
namespace Go.Proofs.Ytinpiodfpnbllaa
open Go.RowKit
set_option linter.unusedVariables false
attribute [local go_sem] run_storeCells_key

/-- Where a cut 's[n:]' of bytes leads. -/
def dropP (A : Option Addr) (n c : Nat) : Option Addr := if c = n then A else A.map fun x => x.add n
theorem slice_bytes_from (W : World) (A : Option Addr) (m c n : Nat) (h : n ≤ m) :
    (Instr.slice 24 (.slice A m c) (some (.int .i64 (n : Int))) none none).run Try.prog W = .ok (.slice (dropP A n c) (m - n) (c - n)) W := by
  have e : Try.prog.elem 24 = 5 := by kernel_rfl
  rw [run_slice_l (P := Try.prog) (w := W) 24 A m c (by rw [e]; exact Try.underlying24) .i64 n (by omega) (by omega), e, Try.sizeOf5 W]
  simp [Result.andThen, sliced, dropP]
theorem BR.drop {w : World} {A : Option Addr} {c : Nat} {l : List UInt8} (h : BR w A c l) (n : Nat) (hn : n ≤ l.length) : BR w (dropP A n c) (c - n) (l.drop n) := by
  have h1 := Rd.le h
  have h2 := Rd.cap h
  have h3 := Rd.len h
  refine ⟨⟨by rw [cellsB_length, Nat.mul_one], by rw [List.length_drop]; omega, by omega, by rw [List.length_drop]; omega⟩, fun hne => ?_⟩
  rw [List.length_drop] at hne
  obtain ⟨b, off, e, hb, hc⟩ := h.2 (by omega)
  refine ⟨b, off + n, by rw [dropP, if_neg (by omega), e]; simp [Addr.add], hb, fun j v hv => ?_⟩
  rw [Nat.add_assoc]
  refine hc (n + j) v ?_
  rw [← hv]
  simp [cellsB, List.getElem?_drop]

theorem portions_any (A : Option Addr) (c L : Nat) (w : World) (hL : (L : Int) ≤ 140737488351232) : Calls Try.prog 111 #[.slice A L c] w fun e w' => e = .returned (.int .i64 (((L + 15) / 16 : Nat) : Int)) ∧ w = w' := by
  go_enter Try.func111, Try.ntmps111
  go_wp2_with fail
  go_ret
  exact ⟨by simp, rfl⟩

set_option maxHeartbeats 1000000 in
set_option maxRecDepth 100000 in
theorem portion_any (A : Option Addr) (c : Nat) (b : List UInt8) (i : Nat) (w : World) {L : Nat} (hL : b.length = L) (h : BR w A c b) (hi : 16 * i ≤ L) :
    Calls Try.prog 113 #[.slice A L c, .int .i64 (i : Int)] w fun e w' => e = .returned (.agg (cellsB (padK (b.drop (16 * i)))).toArray) ∧ Below w.heap.size w w' := by
  have hl0 : (L : Int) ≤ 140737488351232 := by have := h.len; omega
  have HZ := Lib.hid zero16
  have hi0 : (i : Int) * 16 ≤ 140737488351232 := by omega
  have hi1 : 16 * (i : Int) ≤ 140737488351232 := by omega
  have hi2 : (i : Int) ≤ 140737488351232 := by omega
  have hsl : ∀ W, (Instr.slice 24 (.slice A L c) (some (.int .i64 (16 * (i : Int)))) none none).run Try.prog W = .ok (.slice (dropP A (16 * i) c) (L - 16 * i) (c - 16 * i)) W := fun W => by
    have := slice_bytes_from W A L c (16 * i) hi
    rw [Int.natCast_mul] at this
    exact this
  have H := Lib.hid (h.drop (16 * i) (by omega))
  have HN : Hid ((b.drop (16 * i)).length = L - 16 * i) := by unfold Hid; rw [List.length_drop, hL]
  have hl : (cellsB (padK (b.drop (16 * i)))).length = 16 := by rw [cellsB_length]; rfl
  have hall := all16 (padK (b.drop (16 * i)))
  obtain ⟨d, hd⟩ : ∃ d, b.drop (16 * i) = d := ⟨_, rfl⟩
  rw [hd] at H HN hl hall ⊢
  clear h hL hi hd
  go_enter Try.func113, Try.ntmps113
  go_wp2_with (go_at_call 145; refine (refKey_any _ _ d _ HN.out (H.out.below (alloc_bel _ _))).mono ?_; rintro e w1 ⟨rfl, hb1⟩; rw [HZ.out] at hb1; have hB1 := (Blk.new w 23 (cellsB zeroK).toArray).below' hb1; have hr1 : (rowAt w1 w.heap.size).size = 16 := by { rw [hB1.row]; rfl }; have hf1 := hB1.free; have HB1 := Lib.hid hB1; clear hB1)
  exact bodyPost_ret (results_cell_row rfl _ _ w.heap.size _ _ (0, 0) _ rfl (HB1.out.setRow (cellsB (padK d)).toArray) under_key rfl (cellsB_size _ (by simpa [cellsB] using hl))) rfl ⟨rfl, below_setRow ((alloc_bel w _).trans (hb1.mono (alloc_bel w (.cells (cellsB zeroK).toArray 23)).size)) (Nat.le_refl _) _⟩
end Go.Proofs.Ytinpiodfpnbllaa

/- Where a list of leaves is parted, in plain words. -/
namespace Go.Proofs.Ytinpiodfpnbllaa
set_option linter.unusedVariables false

/-- The greatest power of 2 below n, for n from 2 on. -/
def splitS (n : Nat) : Nat := 2 ^ Nat.log2 (n - 1)
theorem splitS_pos (n : Nat) : 1 ≤ splitS n := Nat.two_pow_pos _
theorem splitS_lt {n : Nat} (h : 2 ≤ n) : splitS n < n := by
  have := Nat.log2_self_le (n := n - 1) (by omega)
  unfold splitS
  omega
theorem splitS_ge {n : Nat} (h : 2 ≤ n) : n ≤ 2 * splitS n := by
  have := Nat.lt_log2_self (n := n - 1)
  unfold splitS
  rw [Nat.pow_succ] at this
  omega
theorem splitS_of {n e : Nat} (h1 : 2 ^ e < n) (h2 : n ≤ 2 * 2 ^ e) : splitS n = 2 ^ e := by
  have a1 := splitS_lt (n := n) (by have := Nat.two_pow_pos e; omega)
  have a2 := splitS_ge (n := n) (by have := Nat.two_pow_pos e; omega)
  unfold splitS at *
  generalize Nat.log2 (n - 1) = f at *
  rcases Nat.lt_trichotomy e f with h | h | h
  · have := Nat.pow_le_pow_right (show 1 ≤ 2 by omega) (show e + 1 ≤ f from h)
    rw [Nat.pow_succ] at this
    omega
  · rw [h]
  · have := Nat.pow_le_pow_right (show 1 ≤ 2 by omega) (show f + 1 ≤ e from h)
    rw [Nat.pow_succ] at this
    omega
end Go.Proofs.Ytinpiodfpnbllaa

/- What follows a text before it is digested, in plain words. -/
namespace Go.Proofs.Ytinpiodfpnbllaa
set_option linter.unusedVariables false

/-- What follows n bytes before they are digested: the zeros between. -/
def padZ (n : Nat) : Nat := (23 - n % 16) % 16
def padB (b : List UInt8) : List UInt8 := b ++ (128 :: (List.replicate (padZ b.length) 0 ++ by8 (UInt64.ofNat b.length)))
theorem padB_length (b : List UInt8) : (padB b).length = b.length + 9 + padZ b.length := by simp [padB, by8_length]; omega
def padTail (n : Nat) : List UInt8 := 128 :: (List.replicate (padZ n) 0 ++ by8 (UInt64.ofNat n))
theorem padTail_length (n : Nat) : (padTail n).length = 9 + padZ n := by simp [padTail, by8_length]; omega
theorem padB_tail (b : List UInt8) {n : Nat} (h : b.length = n) : padB b = b ++ padTail n := by rw [padB, padTail, h]
def padJ (j : Nat) : List UInt8 := 128 :: List.replicate j 0
theorem padJ_length (j : Nat) : (padJ j).length = j + 1 := by simp [padJ]
theorem padJ_succ (j : Nat) : padJ (j + 1) = padJ j ++ [0] := by simp [padJ, List.replicate_succ']
end Go.Proofs.Ytinpiodfpnbllaa

/- Digests and trees in plain words. -/
namespace Go.Proofs.Ytinpiodfpnbllaa
set_option linter.unusedVariables false

def salt : List UInt8 := List.replicate 16 90
def dgStep (all s : List UInt8) (i : Nat) : List UInt8 := xorS (encS (padK (all.drop (16 * i))) s) s
def dgN (all : List UInt8) (i : Nat) : List UInt8 := (List.range i).foldl (dgStep all) salt
/-- The digest of some bytes. -/
def digS (b : List UInt8) : List UInt8 := dgN (padB b) ((padB b).length / 16)
theorem dgN_zero (all : List UInt8) : dgN all 0 = salt := rfl
theorem dgN_succ (all : List UInt8) (i : Nat) : dgN all (i + 1) = dgStep all (dgN all i) i := by simp [dgN, List.range_succ]
theorem dgStep_length (all s : List UInt8) (i : Nat) : (dgStep all s i).length = 16 := xorS_length _ _
theorem dgN_length (all : List UInt8) (i : Nat) : (dgN all i).length = 16 := by
  cases i with
  | zero => rfl
  | succ i => rw [dgN_succ]; exact dgStep_length _ _ _
theorem digS_length (b : List UInt8) : (digS b).length = 16 := dgN_length _ _
theorem padB_mod (b : List UInt8) : (padB b).length % 16 = 0 := by rw [padB_length, padZ]; omega
theorem padB_parts (b : List UInt8) : 16 * ((padB b).length / 16) = (padB b).length := by have := padB_mod b; omega

def leafT (k : List UInt8) : List UInt8 := 0 :: k
def nodeT (a b : List UInt8) : List UInt8 := 1 :: (a ++ b)
def rootS (l : List (List UInt8)) : List UInt8 :=
  if h0 : l.length = 0 then digS []
  else if h1 : l.length = 1 then digS (leafT (l.headD []))
  else
    have := splitS_lt (n := l.length) (by omega)
    have := splitS_pos l.length
    digS (nodeT (rootS (l.take (splitS l.length))) (rootS (l.drop (splitS l.length))))
termination_by l.length
decreasing_by all_goals (simp only [List.length_take, List.length_drop]; omega)

def textsS (l : List (List UInt8)) : List (List UInt8) :=
  if h0 : l.length = 0 then [[]]
  else if h1 : l.length = 1 then [leafT (l.headD [])]
  else
    have := splitS_lt (n := l.length) (by omega)
    have := splitS_pos l.length
    textsS (l.take (splitS l.length)) ++ (textsS (l.drop (splitS l.length)) ++ [nodeT (rootS (l.take (splitS l.length))) (rootS (l.drop (splitS l.length)))])
termination_by l.length
decreasing_by all_goals (simp only [List.length_take, List.length_drop]; omega)

def pathS (l : List (List UInt8)) (i : Nat) : List (List UInt8) :=
  if h1 : l.length ≤ 1 then []
  else
    have := splitS_lt (n := l.length) (by omega)
    have := splitS_pos l.length
    if i < splitS l.length then pathS (l.take (splitS l.length)) i ++ [rootS (l.drop (splitS l.length))]
    else pathS (l.drop (splitS l.length)) (i - splitS l.length) ++ [rootS (l.take (splitS l.length))]
termination_by l.length
decreasing_by all_goals (simp only [List.length_take, List.length_drop]; omega)

def partS (l : List (List UInt8)) (m : Nat) (whole : Bool) : List (List UInt8) :=
  if h1 : l.length ≤ 1 ∨ m = l.length then (if whole then [] else [rootS l])
  else
    have := splitS_lt (n := l.length) (by omega)
    have := splitS_pos l.length
    if m ≤ splitS l.length then partS (l.take (splitS l.length)) m whole ++ [rootS (l.drop (splitS l.length))]
    else partS (l.drop (splitS l.length)) (m - splitS l.length) false ++ [rootS (l.take (splitS l.length))]
termination_by l.length
decreasing_by all_goals (simp only [List.length_take, List.length_drop]; omega)

theorem rootS_length (l : List (List UInt8)) : (rootS l).length = 16 := by
  rw [rootS]
  split
  · exact digS_length _
  · split <;> exact digS_length _
theorem rootS_nil : rootS [] = digS [] := by rw [rootS]; rfl
theorem rootS_one (k : List UInt8) : rootS [k] = digS (leafT k) := by rw [rootS]; rfl
theorem rootS_node {l : List (List UInt8)} (h : 2 ≤ l.length) : rootS l = digS (nodeT (rootS (l.take (splitS l.length))) (rootS (l.drop (splitS l.length)))) := by
  rw [rootS, dif_neg (by omega), dif_neg (by omega)]
theorem textsS_nil : textsS [] = [[]] := by rw [textsS]; rfl
theorem textsS_one (k : List UInt8) : textsS [k] = [leafT k] := by rw [textsS]; rfl
theorem textsS_node {l : List (List UInt8)} (h : 2 ≤ l.length) : textsS l = textsS (l.take (splitS l.length)) ++ (textsS (l.drop (splitS l.length)) ++ [nodeT (rootS (l.take (splitS l.length))) (rootS (l.drop (splitS l.length)))]) := by
  rw [textsS, dif_neg (by omega), dif_neg (by omega)]
theorem pathS_one {l : List (List UInt8)} (h : l.length ≤ 1) (i : Nat) : pathS l i = [] := by rw [pathS, dif_pos h]
theorem pathS_low {l : List (List UInt8)} {i : Nat} (h : 2 ≤ l.length) (hi : i < splitS l.length) : pathS l i = pathS (l.take (splitS l.length)) i ++ [rootS (l.drop (splitS l.length))] := by
  rw [pathS, dif_neg (by omega)]
  exact if_pos hi
theorem pathS_high {l : List (List UInt8)} {i : Nat} (h : 2 ≤ l.length) (hi : ¬ i < splitS l.length) : pathS l i = pathS (l.drop (splitS l.length)) (i - splitS l.length) ++ [rootS (l.take (splitS l.length))] := by
  rw [pathS, dif_neg (by omega)]
  exact if_neg hi
theorem partS_end {l : List (List UInt8)} (whole : Bool) : partS l l.length whole = if whole then [] else [rootS l] := by rw [partS, dif_pos (.inr rfl)]
theorem partS_low {l : List (List UInt8)} {m : Nat} (whole : Bool) (h : 2 ≤ l.length) (hm : m ≠ l.length) (hi : m ≤ splitS l.length) : partS l m whole = partS (l.take (splitS l.length)) m whole ++ [rootS (l.drop (splitS l.length))] := by
  rw [partS, dif_neg (by omega)]
  exact if_pos hi
theorem partS_high {l : List (List UInt8)} {m : Nat} (whole : Bool) (h : 2 ≤ l.length) (hm : m ≠ l.length) (hi : ¬ m ≤ splitS l.length) : partS l m whole = partS (l.drop (splitS l.length)) (m - splitS l.length) false ++ [rootS (l.take (splitS l.length))] := by
  rw [partS, dif_neg (by omega)]
  exact if_neg hi
end Go.Proofs.Ytinpiodfpnbllaa

/- Proofs and growths in plain words: which fit, what roots and texts they give, and what follows if they are accepted. -/
namespace Go.Proofs.Ytinpiodfpnbllaa
set_option linter.unusedVariables false

/-- How many entries a path has. -/
def stepsS (n i : Nat) : Nat :=
  if h : n ≤ 1 then 0
  else
    have := splitS_lt (n := n) (by omega)
    have := splitS_pos n
    if i < splitS n then 1 + stepsS (splitS n) i else 1 + stepsS (n - splitS n) (i - splitS n)
termination_by n
decreasing_by all_goals omega
theorem stepsS_one {n : Nat} (h : n ≤ 1) (i : Nat) : stepsS n i = 0 := by rw [stepsS, dif_pos h]
theorem stepsS_low {n i : Nat} (h : 2 ≤ n) (hi : i < splitS n) : stepsS n i = 1 + stepsS (splitS n) i := by
  rw [stepsS, dif_neg (by omega)]
  exact if_pos hi
theorem stepsS_high {n i : Nat} (h : 2 ≤ n) (hi : ¬ i < splitS n) : stepsS n i = 1 + stepsS (n - splitS n) (i - splitS n) := by
  rw [stepsS, dif_neg (by omega)]
  exact if_neg hi

def lastK (l : List (List UInt8)) : List UInt8 := l.getD (l.length - 1) []
def initK (l : List (List UInt8)) : List (List UInt8) := l.take (l.length - 1)
theorem initK_length (l : List (List UInt8)) : (initK l).length = l.length - 1 := by simp [initK]
theorem lastK_snoc (l : List (List UInt8)) (x : List UInt8) : lastK (l ++ [x]) = x := by simp [lastK]
theorem initK_snoc (l : List (List UInt8)) (x : List UInt8) : initK (l ++ [x]) = l := by simp [initK]
theorem lastK_mem {l : List (List UInt8)} (h : 0 < l.length) : lastK l ∈ l := by
  unfold lastK
  rw [List.getD_eq_getElem?_getD, List.getElem?_eq_getElem (by omega)]
  exact List.getElem_mem _
theorem initK_mem {l : List (List UInt8)} {x : List UInt8} (h : x ∈ initK l) : x ∈ l := List.mem_of_mem_take h

/-- The root that a path gives for a leaf, and the texts whose digests are taken. -/
def climbS (leaf : List UInt8) (n i : Nat) (path : List (List UInt8)) : List UInt8 × List (List UInt8) :=
  if h : n ≤ 1 then (digS (leafT leaf), [leafT leaf])
  else
    have := splitS_lt (n := n) (by omega)
    have := splitS_pos n
    if i < splitS n then
      (digS (nodeT (climbS leaf (splitS n) i (initK path)).1 (lastK path)), (climbS leaf (splitS n) i (initK path)).2 ++ [nodeT (climbS leaf (splitS n) i (initK path)).1 (lastK path)])
    else
      (digS (nodeT (lastK path) (climbS leaf (n - splitS n) (i - splitS n) (initK path)).1), (climbS leaf (n - splitS n) (i - splitS n) (initK path)).2 ++ [nodeT (lastK path) (climbS leaf (n - splitS n) (i - splitS n) (initK path)).1])
termination_by n
decreasing_by all_goals omega
theorem climbS_one (leaf : List UInt8) {n : Nat} (h : n ≤ 1) (i : Nat) (path : List (List UInt8)) : climbS leaf n i path = (digS (leafT leaf), [leafT leaf]) := by rw [climbS, dif_pos h]
theorem climbS_low (leaf : List UInt8) {n i : Nat} (path : List (List UInt8)) (h : 2 ≤ n) (hi : i < splitS n) :
    climbS leaf n i path = (digS (nodeT (climbS leaf (splitS n) i (initK path)).1 (lastK path)), (climbS leaf (splitS n) i (initK path)).2 ++ [nodeT (climbS leaf (splitS n) i (initK path)).1 (lastK path)]) := by
  rw [climbS, dif_neg (by omega)]
  exact if_pos hi
theorem climbS_high (leaf : List UInt8) {n i : Nat} (path : List (List UInt8)) (h : 2 ≤ n) (hi : ¬ i < splitS n) :
    climbS leaf n i path = (digS (nodeT (lastK path) (climbS leaf (n - splitS n) (i - splitS n) (initK path)).1), (climbS leaf (n - splitS n) (i - splitS n) (initK path)).2 ++ [nodeT (lastK path) (climbS leaf (n - splitS n) (i - splitS n) (initK path)).1]) := by
  rw [climbS, dif_neg (by omega)]
  exact if_neg hi
theorem climbS_length (leaf : List UInt8) (n i : Nat) (path : List (List UInt8)) : (climbS leaf n i path).1.length = 16 := by
  rw [climbS]
  split
  · exact digS_length _
  · dsimp only
    split <;> exact digS_length _

/-- How many entries a growth has. -/
def partsS (n m : Nat) (whole : Bool) : Nat :=
  if h : n ≤ 1 ∨ m = n then (if whole then 0 else 1)
  else
    have := splitS_lt (n := n) (by omega)
    have := splitS_pos n
    if m ≤ splitS n then 1 + partsS (splitS n) m whole else 1 + partsS (n - splitS n) (m - splitS n) false
termination_by n
decreasing_by all_goals omega
theorem partsS_end (n : Nat) (whole : Bool) : partsS n n whole = if whole then 0 else 1 := by rw [partsS, dif_pos (.inr rfl)]
theorem partsS_low {n m : Nat} (whole : Bool) (h : 2 ≤ n) (hm : m ≠ n) (hi : m ≤ splitS n) : partsS n m whole = 1 + partsS (splitS n) m whole := by
  rw [partsS, dif_neg (by omega)]
  exact if_pos hi
theorem partsS_high {n m : Nat} (whole : Bool) (h : 2 ≤ n) (hm : m ≠ n) (hi : ¬ m ≤ splitS n) : partsS n m whole = 1 + partsS (n - splitS n) (m - splitS n) false := by
  rw [partsS, dif_neg (by omega)]
  exact if_neg hi

/-- The two roots that a growth path gives for an old root, and the texts whose digests are taken. -/
def growS (before : List UInt8) (n m : Nat) (path : List (List UInt8)) : List UInt8 × List UInt8 × List (List UInt8) :=
  if h : n ≤ 1 ∨ m = n then (path.headD before, path.headD before, [])
  else
    have := splitS_lt (n := n) (by omega)
    have := splitS_pos n
    if m ≤ splitS n then
      ((growS before (splitS n) m (initK path)).1, digS (nodeT (growS before (splitS n) m (initK path)).2.1 (lastK path)),
        (growS before (splitS n) m (initK path)).2.2 ++ [nodeT (growS before (splitS n) m (initK path)).2.1 (lastK path)])
    else
      (digS (nodeT (lastK path) (growS before (n - splitS n) (m - splitS n) (initK path)).1), digS (nodeT (lastK path) (growS before (n - splitS n) (m - splitS n) (initK path)).2.1),
        (growS before (n - splitS n) (m - splitS n) (initK path)).2.2 ++ [nodeT (lastK path) (growS before (n - splitS n) (m - splitS n) (initK path)).1, nodeT (lastK path) (growS before (n - splitS n) (m - splitS n) (initK path)).2.1])
termination_by n
decreasing_by all_goals omega
theorem growS_end (before : List UInt8) (n : Nat) (path : List (List UInt8)) : growS before n n path = (path.headD before, path.headD before, []) := by rw [growS, dif_pos (.inr rfl)]
theorem growS_low (before : List UInt8) {n m : Nat} (path : List (List UInt8)) (h : 2 ≤ n) (hm : m ≠ n) (hi : m ≤ splitS n) :
    growS before n m path = ((growS before (splitS n) m (initK path)).1, digS (nodeT (growS before (splitS n) m (initK path)).2.1 (lastK path)),
        (growS before (splitS n) m (initK path)).2.2 ++ [nodeT (growS before (splitS n) m (initK path)).2.1 (lastK path)]) := by
  rw [growS, dif_neg (by omega)]
  exact if_pos hi
theorem growS_high (before : List UInt8) {n m : Nat} (path : List (List UInt8)) (h : 2 ≤ n) (hm : m ≠ n) (hi : ¬ m ≤ splitS n) :
    growS before n m path = (digS (nodeT (lastK path) (growS before (n - splitS n) (m - splitS n) (initK path)).1), digS (nodeT (lastK path) (growS before (n - splitS n) (m - splitS n) (initK path)).2.1),
        (growS before (n - splitS n) (m - splitS n) (initK path)).2.2 ++ [nodeT (lastK path) (growS before (n - splitS n) (m - splitS n) (initK path)).1, nodeT (lastK path) (growS before (n - splitS n) (m - splitS n) (initK path)).2.1]) := by
  rw [growS, dif_neg (by omega)]
  exact if_neg hi
def All16 (l : List (List UInt8)) : Prop := ∀ k ∈ l, k.length = 16
theorem All16.init {l : List (List UInt8)} (h : All16 l) : All16 (initK l) := fun k hk => h k (initK_mem hk)
theorem All16.last {l : List (List UInt8)} (h : All16 l) (hl : 0 < l.length) : (lastK l).length = 16 := h _ (lastK_mem hl)
theorem headD_length {l : List (List UInt8)} {b : List UInt8} (h : All16 l) (hb : b.length = 16) : (l.headD b).length = 16 := by
  cases l with
  | nil => exact hb
  | cons x l => exact h x List.mem_cons_self
theorem growS_length {before : List UInt8} (hb : before.length = 16) : ∀ (n m : Nat) {path : List (List UInt8)}, All16 path → (growS before n m path).1.length = 16 ∧ (growS before n m path).2.1.length = 16 := by
  intro n
  induction n using Nat.strongRecOn with
  | _ n ih =>
    intro m path hp
    rw [growS]
    split
    · exact ⟨headD_length hp hb, headD_length hp hb⟩
    · rename_i h
      have h1 := splitS_lt (n := n) (by omega)
      have h2 := splitS_pos n
      dsimp only
      split
      · exact ⟨(ih _ (by omega) _ hp.init).1, digS_length _⟩
      · exact ⟨digS_length _, digS_length _⟩

/-- Two different texts have the same digest. -/
def Clash (ts : List (List UInt8)) : Prop := ∃ s ∈ ts, ∃ t ∈ ts, s ≠ t ∧ digS s = digS t
theorem Clash.mono {a b : List (List UInt8)} (h : Clash a) (hs : ∀ x ∈ a, x ∈ b) : Clash b := by
  obtain ⟨s, h1, t, h2, h3⟩ := h
  exact ⟨s, hs _ h1, t, hs _ h2, h3⟩
theorem same_or {ts : List (List UInt8)} {s t : List UInt8} (hs : s ∈ ts) (ht : t ∈ ts) (h : digS s = digS t) : s = t ∨ Clash ts := by
  by_cases e : s = t
  · exact .inl e
  · exact .inr ⟨s, hs, t, ht, e, h⟩
theorem nodeT_inj {a b c d : List UInt8} (h : nodeT a b = nodeT c d) (hl : a.length = c.length) : a = c ∧ b = d := by
  unfold nodeT at h
  injection h with _ h
  exact List.append_inj h hl
theorem leafT_inj {a b : List UInt8} (h : leafT a = leafT b) : a = b := by
  unfold leafT at h
  injection h
theorem texts_root {l : List (List UInt8)} (h : 2 ≤ l.length) : nodeT (rootS (l.take (splitS l.length))) (rootS (l.drop (splitS l.length))) ∈ textsS l := by rw [textsS_node h]; simp
theorem texts_take {l : List (List UInt8)} (h : 2 ≤ l.length) : ∀ x ∈ textsS (l.take (splitS l.length)), x ∈ textsS l := fun x hx => by rw [textsS_node h]; simp [hx]
theorem texts_drop {l : List (List UInt8)} (h : 2 ≤ l.length) : ∀ x ∈ textsS (l.drop (splitS l.length)), x ∈ textsS l := fun x hx => by rw [textsS_node h]; simp [hx]

/-- Two lists of one length with one root are the same, or two texts have one digest. -/
theorem root_same : ∀ (n : Nat) (a b : List (List UInt8)), a.length = n → b.length = n → rootS a = rootS b → a = b ∨ Clash (textsS a ++ textsS b) := by
  intro n
  induction n using Nat.strongRecOn with
  | _ n ih =>
    intro a b ha hb h
    rcases Nat.lt_or_ge n 2 with h2 | h2
    · rcases Nat.lt_or_ge n 1 with h1 | h1
      · obtain rfl : n = 0 := by omega
        rw [List.eq_nil_of_length_eq_zero ha, List.eq_nil_of_length_eq_zero hb]
        exact .inl rfl
      · obtain rfl : n = 1 := by omega
        obtain ⟨x, rfl⟩ := List.length_eq_one_iff.1 ha
        obtain ⟨y, rfl⟩ := List.length_eq_one_iff.1 hb
        rw [rootS_one, rootS_one] at h
        rcases same_or (ts := textsS [x] ++ textsS [y]) (by rw [textsS_one]; simp) (by rw [textsS_one y]; simp) h with h | h
        · rw [leafT_inj h]; exact .inl rfl
        · exact .inr h
    have s1 := splitS_lt h2
    have s2 := splitS_pos n
    rw [rootS_node (by omega), rootS_node (l := b) (by omega)] at h
    rcases same_or (ts := textsS a ++ textsS b) (List.mem_append_left _ (texts_root (by omega))) (List.mem_append_right _ (texts_root (by omega))) h with h | h
    · obtain ⟨e1, e2⟩ := nodeT_inj h (by rw [rootS_length, rootS_length])
      have ta := texts_take (l := a) (by omega)
      have tb := texts_take (l := b) (by omega)
      have da := texts_drop (l := a) (by omega)
      have db := texts_drop (l := b) (by omega)
      rw [ha] at e1 e2 ta da
      rw [hb] at e1 e2 tb db
      rcases ih (splitS n) s1 _ _ (by rw [List.length_take]; omega) (by rw [List.length_take]; omega) e1 with f1 | f1
      · rcases ih (n - splitS n) (by omega) _ _ (by rw [List.length_drop]; omega) (by rw [List.length_drop]; omega) e2 with f2 | f2
        · left
          rw [← List.take_append_drop (splitS n) a, f1, f2, List.take_append_drop]
        · exact .inr (f2.mono fun x hx => by rcases List.mem_append.1 hx with hx | hx; exact List.mem_append_left _ (da x hx); exact List.mem_append_right _ (db x hx))
      · exact .inr (f1.mono fun x hx => by rcases List.mem_append.1 hx with hx | hx; exact List.mem_append_left _ (ta x hx); exact List.mem_append_right _ (tb x hx))
    · exact .inr h

theorem pathS_steps : ∀ (n : Nat) (l : List (List UInt8)) (i : Nat), l.length = n → (pathS l i).length = stepsS n i := by
  intro n
  induction n using Nat.strongRecOn with
  | _ n ih =>
    intro l i hl
    rcases Nat.lt_or_ge n 2 with h2 | h2
    · rw [pathS_one (by omega), stepsS_one (by omega)]; rfl
    have s1 := splitS_lt h2
    have s2 := splitS_pos n
    by_cases hi : i < splitS n
    · rw [pathS_low (by omega) (by rw [hl]; exact hi), stepsS_low h2 hi, List.length_append, hl, ih (splitS n) s1 _ _ (by rw [List.length_take]; omega)]
      simp only [List.length_cons, List.length_nil]; omega
    · rw [pathS_high (by omega) (by rw [hl]; exact hi), stepsS_high h2 hi, List.length_append, hl, ih (n - splitS n) (by omega) _ _ (by rw [List.length_drop]; omega)]
      simp only [List.length_cons, List.length_nil]; omega

/-- Each leaf is proved. -/
theorem climb_path : ∀ (n : Nat) (l : List (List UInt8)) (i : Nat), l.length = n → i < n → (climbS (l.getD i []) n i (pathS l i)).1 = rootS l := by
  intro n
  induction n using Nat.strongRecOn with
  | _ n ih =>
    intro l i hl hi
    rcases Nat.lt_or_ge n 2 with h2 | h2
    · obtain rfl : n = 1 := by omega
      obtain ⟨x, rfl⟩ := List.length_eq_one_iff.1 hl
      obtain rfl : i = 0 := by omega
      rw [climbS_one _ (by omega), rootS_one]; rfl
    have s1 := splitS_lt h2
    have s2 := splitS_pos n
    by_cases hk : i < splitS n
    · have := ih (splitS n) s1 (l.take (splitS n)) i (by rw [List.length_take]; omega) hk
      rw [climbS_low _ _ h2 hk, pathS_low (by omega) (by rw [hl]; exact hk), lastK_snoc, initK_snoc, hl]
      have e : (l.take (splitS n)).getD i [] = l.getD i [] := by simp [List.getD_eq_getElem?_getD, hk]
      rw [← e, this, rootS_node (l := l) (by omega), hl]
    · have := ih (n - splitS n) (by omega) (l.drop (splitS n)) (i - splitS n) (by rw [List.length_drop]; omega) (by omega)
      rw [climbS_high _ _ h2 hk, pathS_high (by omega) (by rw [hl]; exact hk), lastK_snoc, initK_snoc, hl]
      have e : (l.drop (splitS n)).getD (i - splitS n) [] = l.getD i [] := by simp only [List.getD_eq_getElem?_getD, List.getElem?_drop]; rw [show splitS n + (i - splitS n) = i from by omega]
      rw [← e, this, rootS_node (l := l) (by omega), hl]

/-- What is accepted is true, or two texts have one digest. -/
theorem climb_true : ∀ (n : Nat) (l : List (List UInt8)) (leaf : List UInt8) (i : Nat) (path : List (List UInt8)), l.length = n → i < n → path.length = stepsS n i → All16 path →
    (climbS leaf n i path).1 = rootS l → l.getD i [] = leaf ∨ Clash (textsS l ++ (climbS leaf n i path).2) := by
  intro n
  induction n using Nat.strongRecOn with
  | _ n ih =>
    intro l leaf i path hl hi hp h16 h
    rcases Nat.lt_or_ge n 2 with h2 | h2
    · obtain rfl : n = 1 := by omega
      obtain ⟨x, rfl⟩ := List.length_eq_one_iff.1 hl
      obtain rfl : i = 0 := by omega
      rw [climbS_one _ (by omega)] at h ⊢
      rw [rootS_one] at h
      rcases same_or (ts := textsS [x] ++ [leafT leaf]) (by simp) (by rw [textsS_one]; simp) h with h | h
      · rw [leafT_inj h]; exact .inl rfl
      · exact .inr h
    have s1 := splitS_lt h2
    have s2 := splitS_pos n
    have t0 := texts_root (l := l) (by omega)
    have t1 := texts_take (l := l) (by omega)
    have t2 := texts_drop (l := l) (by omega)
    rw [rootS_node (by omega)] at h
    rw [hl] at h t0 t1 t2
    by_cases hk : i < splitS n
    · rw [stepsS_low h2 hk] at hp
      rw [climbS_low _ _ h2 hk] at h ⊢
      have IH := ih (splitS n) s1 (l.take (splitS n)) leaf i (initK path) (by rw [List.length_take]; omega) hk (by rw [initK_length]; omega) h16.init
      have e : (l.take (splitS n)).getD i [] = l.getD i [] := by simp [List.getD_eq_getElem?_getD, hk]
      rw [e] at IH
      have hlen := climbS_length leaf (splitS n) i (initK path)
      generalize climbS leaf (splitS n) i (initK path) = r at *
      dsimp only at h ⊢
      rcases same_or (ts := textsS l ++ (r.2 ++ [nodeT r.1 (lastK path)])) (by simp) (List.mem_append_left _ t0) h with h | h
      · obtain ⟨e1, e2⟩ := nodeT_inj h (by rw [hlen, rootS_length])
        rcases IH e1 with f | f
        · exact .inl f
        · exact .inr (f.mono fun x hx => by rcases List.mem_append.1 hx with hx | hx; exact List.mem_append_left _ (t1 x hx); exact List.mem_append_right _ (List.mem_append_left _ hx))
      · exact .inr h
    · rw [stepsS_high h2 hk] at hp
      rw [climbS_high _ _ h2 hk] at h ⊢
      have IH := ih (n - splitS n) (by omega) (l.drop (splitS n)) leaf (i - splitS n) (initK path) (by rw [List.length_drop]; omega) (by omega) (by rw [initK_length]; omega) h16.init
      have e : (l.drop (splitS n)).getD (i - splitS n) [] = l.getD i [] := by simp only [List.getD_eq_getElem?_getD, List.getElem?_drop]; rw [show splitS n + (i - splitS n) = i from by omega]
      rw [e] at IH
      have hlast := h16.last (l := path) (by omega)
      generalize climbS leaf (n - splitS n) (i - splitS n) (initK path) = r at *
      dsimp only at h ⊢
      rcases same_or (ts := textsS l ++ (r.2 ++ [nodeT (lastK path) r.1])) (by simp) (List.mem_append_left _ t0) h with h | h
      · obtain ⟨e1, e2⟩ := nodeT_inj h (by rw [hlast, rootS_length])
        rcases IH e2 with f | f
        · exact .inl f
        · exact .inr (f.mono fun x hx => by rcases List.mem_append.1 hx with hx | hx; exact List.mem_append_left _ (t2 x hx); exact List.mem_append_right _ (List.mem_append_left _ hx))
      · exact .inr h

theorem partS_parts : ∀ (n : Nat) (l : List (List UInt8)) (m : Nat) (wh : Bool), l.length = n → 1 ≤ m → m ≤ n → (partS l m wh).length = partsS n m wh := by
  intro n
  induction n using Nat.strongRecOn with
  | _ n ih =>
    intro l m wh hl h1 hm
    by_cases he : m = n
    · subst he
      rw [partsS_end]
      subst hl
      rw [partS_end]
      cases wh <;> rfl
    have s1 := splitS_lt (n := n) (by omega)
    have s2 := splitS_pos n
    by_cases hi : m ≤ splitS n
    · rw [partS_low _ (by omega) (by omega) (by rw [hl]; exact hi), partsS_low _ (by omega) he hi, List.length_append, hl, ih (splitS n) s1 _ _ _ (by rw [List.length_take]; omega) h1 hi]
      simp only [List.length_cons, List.length_nil]; omega
    · rw [partS_high _ (by omega) (by omega) (by rw [hl]; exact hi), partsS_high _ (by omega) he hi, List.length_append, hl, ih (n - splitS n) (by omega) _ _ _ (by rw [List.length_drop]; omega) (by omega) (by omega)]
      simp only [List.length_cons, List.length_nil]; omega

theorem split_between {n m : Nat} (h1 : splitS n < m) (h2 : m ≤ n) : splitS m = splitS n := by
  have := splitS_pos n
  have := splitS_ge (n := n) (by omega)
  exact splitS_of h1 (by unfold splitS at this; omega)

/-- The growth from each beginning is proved. -/
theorem grow_part : ∀ (n : Nat) (l : List (List UInt8)) (m : Nat) (wh : Bool) (before : List UInt8), l.length = n → 1 ≤ m → m ≤ n → (wh = true → before = rootS (l.take m)) →
    (growS before n m (partS l m wh)).1 = rootS (l.take m) ∧ (growS before n m (partS l m wh)).2.1 = rootS l := by
  intro n
  induction n using Nat.strongRecOn with
  | _ n ih =>
    intro l m wh before hl h1 hm hb
    by_cases he : m = n
    · subst he
      rw [growS_end]
      subst hl
      rw [partS_end]
      rw [List.take_length] at hb ⊢
      cases wh with
      | true => simp [hb rfl]
      | false => simp
    have h2 : 2 ≤ n := by omega
    have s1 := splitS_lt h2
    have s2 := splitS_pos n
    by_cases hi : m ≤ splitS n
    · have e : (l.take (splitS n)).take m = l.take m := by rw [List.take_take, Nat.min_eq_left hi]
      have IH := ih (splitS n) s1 (l.take (splitS n)) m wh before (by rw [List.length_take]; omega) h1 hi (by rw [e]; exact hb)
      rw [e] at IH
      rw [partS_low _ (by omega) (by omega) (by rw [hl]; exact hi), growS_low _ _ h2 he hi, lastK_snoc, initK_snoc, hl]
      dsimp only
      exact ⟨IH.1, by rw [IH.2, rootS_node (l := l) (by omega), hl]⟩
    · have IH := ih (n - splitS n) (by omega) (l.drop (splitS n)) (m - splitS n) false before (by rw [List.length_drop]; omega) (by omega) (by omega) (by simp)
      rw [partS_high _ (by omega) (by omega) (by rw [hl]; exact hi), growS_high _ _ h2 he hi, lastK_snoc, initK_snoc, hl]
      dsimp only
      have hlm : (l.take m).length = m := by rw [List.length_take]; omega
      refine ⟨?_, by rw [IH.2, rootS_node (l := l) (by omega), hl]⟩
      rw [IH.1, rootS_node (l := l.take m) (by omega), hlm, split_between (by omega) hm, List.take_take, Nat.min_eq_left (by omega), List.take_drop, show splitS n + (m - splitS n) = m from by omega]

/-- An accepted growth is true, or two texts have one digest. -/
theorem grow_true : ∀ (n : Nat) (a b : List (List UInt8)) (m : Nat) (wh : Bool) (before : List UInt8) (path : List (List UInt8)), a.length = m → b.length = n → 1 ≤ m → m ≤ n → path.length = partsS n m wh → All16 path →
    (growS before n m path).1 = rootS a → (growS before n m path).2.1 = rootS b → a = b.take m ∨ Clash (textsS a ++ (textsS b ++ (growS before n m path).2.2)) := by
  intro n
  induction n using Nat.strongRecOn with
  | _ n ih =>
    intro a b m wh before path ha hb h1 hm hp h16 hA hB
    by_cases he : m = n
    · subst he
      rw [growS_end] at hA hB
      rcases root_same m a b ha hb (by rw [← hA, ← hB]) with h | h
      · left; rw [h, ← hb, List.take_length]
      · exact .inr (h.mono fun x hx => by rcases List.mem_append.1 hx with hx | hx; exact List.mem_append_left _ hx; exact List.mem_append_right _ (List.mem_append_left _ hx))
    have h2 : 2 ≤ n := by omega
    have s1 := splitS_lt h2
    have s2 := splitS_pos n
    have t0 := texts_root (l := b) (by omega)
    have t1 := texts_take (l := b) (by omega)
    have t2 := texts_drop (l := b) (by omega)
    rw [rootS_node (l := b) (by omega)] at hB
    rw [hb] at hB t0 t1 t2
    by_cases hi : m ≤ splitS n
    · rw [partsS_low _ h2 he hi] at hp
      have e : (b.take (splitS n)).take m = b.take m := by rw [List.take_take, Nat.min_eq_left hi]
      have IH := ih (splitS n) s1 a (b.take (splitS n)) m wh before (initK path) ha (by rw [List.length_take]; omega) h1 hi (by rw [initK_length]; omega) h16.init
      rw [e] at IH
      rw [growS_low _ _ h2 he hi] at hA hB ⊢
      have hrl : path.length ≠ 0 := by omega
      obtain ⟨r, hr⟩ : ∃ r, r = growS before (splitS n) m (initK path) := ⟨_, rfl⟩
      have hlen : r.2.1.length = (rootS (b.take (splitS n))).length ∨ ¬ r.2.1.length = (rootS (b.take (splitS n))).length := Decidable.em _
      rw [← hr] at IH hA hB ⊢
      dsimp only at hA hB ⊢
      rcases same_or (ts := textsS a ++ (textsS b ++ (r.2.2 ++ [nodeT r.2.1 (lastK path)]))) (by simp) (List.mem_append_right _ (List.mem_append_left _ t0)) hB with h | h
      · have hll := h16.last (l := path) (by omega)
        have hle : r.2.1.length = (rootS (b.take (splitS n))).length := by
          have := congrArg List.length h
          simp only [nodeT, List.length_cons, List.length_append, hll, rootS_length] at this
          rw [rootS_length]; omega
        obtain ⟨e1, e2⟩ := nodeT_inj h hle
        rcases IH hA e1 with f | f
        · exact .inl f
        · refine .inr (f.mono fun x hx => ?_)
          rcases List.mem_append.1 hx with hx | hx
          · exact List.mem_append_left _ hx
          · refine List.mem_append_right _ ?_
            rcases List.mem_append.1 hx with hx | hx
            · exact List.mem_append_left _ (t1 x hx)
            · exact List.mem_append_right _ (List.mem_append_left _ hx)
      · exact .inr h
    · rw [partsS_high _ h2 he hi] at hp
      have sm := split_between (n := n) (m := m) (by omega) hm
      have u0 := texts_root (l := a) (by omega)
      have u1 := texts_take (l := a) (by omega)
      have u2 := texts_drop (l := a) (by omega)
      rw [rootS_node (l := a) (by omega)] at hA
      rw [ha, sm] at hA u0 u1 u2
      have e : (b.drop (splitS n)).take (m - splitS n) = (b.take m).drop (splitS n) := by rw [List.take_drop, show splitS n + (m - splitS n) = m from by omega]
      have IH := ih (n - splitS n) (by omega) (a.drop (splitS n)) (b.drop (splitS n)) (m - splitS n) false before (initK path) (by rw [List.length_drop]; omega) (by rw [List.length_drop]; omega) (by omega) (by omega) (by rw [initK_length]; omega) h16.init
      rw [e] at IH
      rw [growS_high _ _ h2 he hi] at hA hB ⊢
      obtain ⟨r, hr⟩ : ∃ r, r = growS before (n - splitS n) (m - splitS n) (initK path) := ⟨_, rfl⟩
      rw [← hr] at IH hA hB ⊢
      dsimp only at hA hB ⊢
      have hll := h16.last (l := path) (by omega)
      rcases same_or (ts := textsS a ++ (textsS b ++ (r.2.2 ++ [nodeT (lastK path) r.1, nodeT (lastK path) r.2.1]))) (by simp) (List.mem_append_right _ (List.mem_append_left _ t0)) hB with hB | h
      · rcases same_or (ts := textsS a ++ (textsS b ++ (r.2.2 ++ [nodeT (lastK path) r.1, nodeT (lastK path) r.2.1]))) (by simp) (List.mem_append_left _ u0) hA with hA | h
        · obtain ⟨e1, e2⟩ := nodeT_inj hB (by rw [hll, rootS_length])
          obtain ⟨e3, e4⟩ := nodeT_inj hA (by rw [hll, rootS_length])
          rcases root_same (splitS n) (a.take (splitS n)) (b.take (splitS n)) (by rw [List.length_take]; omega) (by rw [List.length_take]; omega) (e3.symm.trans e1) with f | f
          · rcases IH e4 e2 with g | g
            · left
              rw [← List.take_append_drop (splitS n) a, f, g]
              have : b.take (splitS n) = (b.take m).take (splitS n) := by rw [List.take_take, Nat.min_eq_left (by omega)]
              rw [this, List.take_append_drop]
            · refine .inr (g.mono fun x hx => ?_)
              rcases List.mem_append.1 hx with hx | hx
              · exact List.mem_append_left _ (u2 x hx)
              · refine List.mem_append_right _ ?_
                rcases List.mem_append.1 hx with hx | hx
                · exact List.mem_append_left _ (t2 x hx)
                · exact List.mem_append_right _ (List.mem_append_left _ hx)
          · refine .inr (f.mono fun x hx => ?_)
            rcases List.mem_append.1 hx with hx | hx
            · exact List.mem_append_left _ (u1 x hx)
            · exact List.mem_append_right _ (List.mem_append_left _ (t1 x hx))
        · exact .inr h
      · exact .inr h
end Go.Proofs.Ytinpiodfpnbllaa

/- The leaves of revocation lists in plain words, and what an accepted proof of absence says. -/
namespace Go.Proofs.Ytinpiodfpnbllaa
set_option linter.unusedVariables false

def isE (x : Ent) : Bool := decide (-1 ≤ x.1) && (decide (x.1 ≤ 64) && (decide (0 ≤ x.2) && decide (x.2 ≤ 1099511627776)))
theorem isE_iff {x : Ent} : isE x = true ↔ -1 ≤ x.1 ∧ x.1 ≤ 64 ∧ 0 ≤ x.2 ∧ x.2 ≤ 1099511627776 := by simp [isE]
theorem isE_ok {x : Ent} (h : okE x = true) : isE x = true := by
  rw [okE_iff] at h
  rw [isE_iff]
  omega
/-- The bytes of a number, the lowest one last. -/
def be8 (n : Nat) : List UInt8 := [UInt8.ofNat (n / 72057594037927936), UInt8.ofNat (n / 281474976710656), UInt8.ofNat (n / 1099511627776), UInt8.ofNat (n / 4294967296), UInt8.ofNat (n / 16777216), UInt8.ofNat (n / 65536), UInt8.ofNat (n / 256), UInt8.ofNat n]
def leafE (x : Ent) : List UInt8 := [0, 0, 0, 0, 0, 0, 0, UInt8.ofNat (x.1 + 1).toNat] ++ be8 x.2.toNat
theorem leafE_length (x : Ent) : (leafE x).length = 16 := rfl
theorem ofNat_inj {a b : Nat} (h : UInt8.ofNat a = UInt8.ofNat b) : a % 256 = b % 256 := by
  have := congrArg UInt8.toNat h
  simpa using this
theorem up256 {a b : Nat} (h1 : a / 256 = b / 256) (h2 : a % 256 = b % 256) : a = b := by omega
theorem leafE_inj {x y : Ent} (hx : isE x = true) (hy : isE y = true) (h : leafE x = leafE y) : x = y := by
  rw [isE_iff] at hx hy
  obtain ⟨a, b⟩ := x
  obtain ⟨c, d⟩ := y
  simp only at hx hy
  simp only [leafE, be8, List.cons_append, List.nil_append, List.cons.injEq, true_and, and_true] at h
  obtain ⟨h0, h1, h2, h3, h4, h5, h6, h7, h8⟩ := h
  have e0 := ofNat_inj h0
  have e1 := ofNat_inj h1
  have e2 := ofNat_inj h2
  have e3 := ofNat_inj h3
  have e4 := ofNat_inj h4
  have e5 := ofNat_inj h5
  have e6 := ofNat_inj h6
  have e7 := ofNat_inj h7
  have e8 := ofNat_inj h8
  have f0 : a = c := by clear e1 e2 e3 e4 e5 e6 e7 e8; omega
  have hb : b.toNat / 1099511627776 < 256 := by clear e0 e1 e2 e3 e4 e5 e6 e7 e8; omega
  have hd : d.toNat / 1099511627776 < 256 := by clear e0 e1 e2 e3 e4 e5 e6 e7 e8; omega
  rw [Nat.mod_eq_of_lt hb, Nat.mod_eq_of_lt hd] at e3
  have g4 : b.toNat / 4294967296 = d.toNat / 4294967296 := up256 (by rw [Nat.div_div_eq_div_mul, Nat.div_div_eq_div_mul]; exact e3) e4
  have g5 : b.toNat / 16777216 = d.toNat / 16777216 := up256 (by rw [Nat.div_div_eq_div_mul, Nat.div_div_eq_div_mul]; exact g4) e5
  have g6 : b.toNat / 65536 = d.toNat / 65536 := up256 (by rw [Nat.div_div_eq_div_mul, Nat.div_div_eq_div_mul]; exact g5) e6
  have g7 : b.toNat / 256 = d.toNat / 256 := up256 (by rw [Nat.div_div_eq_div_mul, Nat.div_div_eq_div_mul]; exact g6) e7
  have f1 : b.toNat = d.toNat := up256 g7 e8
  have f2 : b = d := by clear e1 e2 e3 e4 e5 e6 e7 e8 g4 g5 g6 g7; omega
  rw [f0, f2]
/-- The entries of a list with one at each end, and their leaves. -/
def endedE (l : List Ent) : List Ent := (-1, 0) :: (l ++ [(64, 0)])
def leavesE (l : List Ent) : List (List UInt8) := (endedE l).map leafE
theorem endedE_length (l : List Ent) : (endedE l).length = l.length + 2 := by simp [endedE]
theorem leavesE_length (l : List Ent) : (leavesE l).length = l.length + 2 := by rw [leavesE, List.length_map, endedE_length]
theorem leavesE_16 (l : List Ent) : All16 (leavesE l) := fun k hk => by
  obtain ⟨x, _, rfl⟩ := List.mem_map.1 hk
  exact leafE_length x
theorem validL_length {l : List Ent} (h : validL l = true) : l.length ≤ 64 := by
  suffices hs : ∀ (l : List Ent) (p : Int), upE p l = true → (∀ x ∈ l, x.1 < 64) → (l.length : Int) ≤ 63 - p ∨ l.length = 0 by
    have hv := validL_iff.1 h
    have hu : upE (-1) l = true := upE_of hv.2 fun x hx => by have := okE_iff.1 (hv.1 x hx); omega
    rcases hs l (-1) hu fun x hx => (okE_iff.1 (hv.1 x hx)).2.1 with h | h <;> omega
  intro l
  induction l with
  | nil => intro p _ _; exact .inr rfl
  | cons x l ih =>
    intro p hu hl
    simp only [upE, Bool.and_eq_true, decide_eq_true_eq] at hu
    have := hl x List.mem_cons_self
    left
    rw [List.length_cons]
    rcases ih x.1 hu.2 fun y hy => hl y (List.mem_cons_of_mem _ hy) with h | h <;> omega
theorem endedE_pair {l : List Ent} (h : validL l = true) : (endedE l).Pairwise fun x y => x.1 < y.1 := by
  have hv := validL_iff.1 h
  unfold endedE
  rw [List.pairwise_cons, pairwise_snoc]
  refine ⟨fun x hx => ?_, hv.2, fun x hx => (okE_iff.1 (hv.1 x hx)).2.1⟩
  rcases List.mem_append.1 hx with hx | hx
  · have := okE_iff.1 (hv.1 x hx); simp only; omega
  · rw [List.mem_singleton.1 hx]; simp
theorem endedE_is {l : List Ent} (h : validL l = true) : ∀ x ∈ endedE l, isE x = true := by
  intro x hx
  unfold endedE at hx
  rcases List.mem_cons.1 hx with rfl | hx
  · decide
  · rcases List.mem_append.1 hx with hx | hx
    · exact isE_ok ((validL_iff.1 h).1 x hx)
    · rw [List.mem_singleton.1 hx]; decide
/-- Between two neighbours there is no entry. -/
theorem between_none {l : List Ent} (h : validL l = true) {i : Nat} {u : Int} (hi : i + 1 < (endedE l).length) (h1 : ((endedE l)[i]'(by omega)).1 < u) (h2 : u < ((endedE l)[i + 1]'hi).1) : untilS l u = -1 := by
  refine untilS_none fun x hx hxu => ?_
  have hp := List.pairwise_iff_getElem.1 (endedE_pair h)
  have hm : x ∈ endedE l := by unfold endedE; simp [hx]
  obtain ⟨j, hj, rfl⟩ := List.mem_iff_getElem.1 hm
  rcases Nat.lt_or_ge i j with hij | hij
  · rcases Nat.lt_or_ge (i + 1) j with hij' | hij'
    · have := hp (i + 1) j hi hj hij'; omega
    · obtain rfl : j = i + 1 := by omega
      omega
  · rcases Nat.lt_or_ge j i with hij' | hij'
    · have := hp j i hj (by omega) hij'; omega
    · obtain rfl : j = i := by omega
      omega
/-- An accepted proof of absence is true, or two texts have one digest. -/
theorem absent_true {l : List Ent} (h : validL l = true) {u : Int} {low high : Ent} {i : Nat} {p q : List (List UInt8)} (hlo : isE low = true) (hhi : isE high = true) (h1 : low.1 < u) (h2 : u < high.1)
    (hi : i + 1 < l.length + 2) (hp : p.length = stepsS (l.length + 2) i) (hq : q.length = stepsS (l.length + 2) (i + 1)) (p16 : All16 p) (q16 : All16 q)
    (e1 : (climbS (leafE low) (l.length + 2) i p).1 = rootS (leavesE l)) (e2 : (climbS (leafE high) (l.length + 2) (i + 1) q).1 = rootS (leavesE l)) :
    untilS l u = -1 ∨ Clash (textsS (leavesE l) ++ ((climbS (leafE low) (l.length + 2) i p).2 ++ (climbS (leafE high) (l.length + 2) (i + 1) q).2)) := by
  have hn := leavesE_length l
  rcases climb_true _ (leavesE l) (leafE low) i p hn (by omega) hp p16 e1 with a | a
  · rcases climb_true _ (leavesE l) (leafE high) (i + 1) q hn hi hq q16 e2 with b | b
    · left
      have hel := endedE_length l
      have g1 : (leavesE l).getD i [] = leafE ((endedE l)[i]'(by omega)) := by
        rw [List.getD_eq_getElem?_getD, List.getElem?_eq_getElem (by omega)]
        simp [leavesE]
      have g2 : (leavesE l).getD (i + 1) [] = leafE ((endedE l)[i + 1]'(by omega)) := by
        rw [List.getD_eq_getElem?_getD, List.getElem?_eq_getElem (by omega)]
        simp [leavesE]
      have f1 := leafE_inj (endedE_is h _ (List.getElem_mem _)) hlo (g1.symm.trans a)
      have f2 := leafE_inj (endedE_is h _ (List.getElem_mem _)) hhi (g2.symm.trans b)
      exact between_none h (i := i) (by omega) (by rw [f1]; exact h1) (by rw [f2]; exact h2)
    · exact .inr (b.mono fun x hx => by rcases List.mem_append.1 hx with hx | hx; exact List.mem_append_left _ hx; exact List.mem_append_right _ (List.mem_append_right _ hx))
  · exact .inr (a.mono fun x hx => by rcases List.mem_append.1 hx with hx | hx; exact List.mem_append_left _ hx; exact List.mem_append_right _ (List.mem_append_left _ hx))
end Go.Proofs.Ytinpiodfpnbllaa

/- The texts of leaves and nodes. -/
namespace Go.Proofs.Ytinpiodfpnbllaa
open Go.RowKit
set_option linter.unusedVariables false

def leafX (k : List UInt8) : List UInt8 := 0 :: k
def nodeX (a b : List UInt8) : List UInt8 := 1 :: (a ++ b)
theorem Blk.src {w : World} {g : Nat} {t : TypeId} {l : List UInt8} (h : Blk w g t (cellsB l).toArray) {n : Nat} (hn : l.length = n) : Src w 1 (some ⟨g, 0, none⟩) n (cellsB l) := by
  subst hn
  refine ⟨by simp [cellsB], .inr ⟨_, rfl, fun j u hu => ?_⟩⟩
  rw [Addr.add_lit, Nat.zero_add, h.cell j]
  simpa using hu
theorem lit_after (w : World) (o : Obj) (x : UInt8) : OB w.heap.size ((w.alloc o).alloc (.cells #[.int .u8 (x.toNat : Int)] 5)) (some ⟨w.heap.size + 1, 0, none⟩) 1 [x] := by
  have h := OB.lit w.heap.size (w.alloc o) [x] (by simp) (by simp) (n := 1) rfl
  rw [World.size_alloc] at h
  exact h
theorem lit_after2 (w : World) (o o' : Obj) (x : UInt8) : OB (w.heap.size + 1 + 1) (((w.alloc o).alloc o').alloc (.cells #[.int .u8 (x.toNat : Int)] 5)) (some ⟨w.heap.size + 1 + 1, 0, none⟩) 1 [x] := by
  have h := OB.lit (w.heap.size + 1 + 1) ((w.alloc o).alloc o') [x] (by simp) (by simp) (n := 1) rfl
  rw [World.size_alloc, World.size_alloc] at h
  exact h

set_option maxHeartbeats 1000000 in
theorem leafText_any (k : List UInt8) (w : World) (hk : k.length = 16) : Calls Try.prog 66 #[.agg (cellsB k).toArray] w fun e w' => (∃ A c, e = .returned (.slice A 17 c) ∧ OB w.heap.size w' A c (leafX k)) ∧ Below w.heap.size w w' := by
  have HK := Lib.hid hk
  have HL := Lib.hid (lit_after w (.cells (cellsB k).toArray 23) 0)
  have HB := Lib.hid (blk_b0 w (cellsB k).toArray 23 (.cells #[.int .u8 ((0 : UInt8).toNat : Int)] 5))
  have b0 := alloc2_bel w (.cells (cellsB k).toArray 23) (.cells #[.int .u8 ((0 : UInt8).toNat : Int)] 5)
  clear hk
  go_enter Try.func66, Try.ntmps66
  go_wp2_with (at_builtin; refine wpList_append_bytes _ rfl (.tmp 3) (.tmp 4) rfl w.heap.size (some ⟨w.heap.size + 1, 0, none⟩) 1 1 [0] rfl rfl HL.out (some ⟨w.heap.size, 0, none⟩) 16 16 k HK.out rfl (HB.out.src HK.out) (by omega) (by simp; omega) ?_; intro A5 c5 w5 hon5 hbl5 hg5; have HON5 := Lib.hid hon5; have b5 := b0.trans hbl5; clear hon5 hg5 hbl5)
  go_ret
  exact ⟨⟨A5, c5, rfl, HON5.out⟩, b5⟩
set_option maxHeartbeats 1000000 in
theorem refLeafText_any (k : List UInt8) (w : World) (hk : k.length = 16) : Calls Try.prog 126 #[.agg (cellsB k).toArray] w fun e w' => (∃ A c, e = .returned (.slice A 17 c) ∧ OB w.heap.size w' A c (leafX k)) ∧ Below w.heap.size w w' := by
  have HK := Lib.hid hk
  have HL := Lib.hid (lit_after w (.cells (cellsB k).toArray 23) 0)
  have HB := Lib.hid (blk_b0 w (cellsB k).toArray 23 (.cells #[.int .u8 ((0 : UInt8).toNat : Int)] 5))
  have b0 := alloc2_bel w (.cells (cellsB k).toArray 23) (.cells #[.int .u8 ((0 : UInt8).toNat : Int)] 5)
  clear hk
  go_enter Try.func126, Try.ntmps126
  go_wp2_with (at_builtin; refine wpList_append_bytes _ rfl (.tmp 3) (.tmp 4) rfl w.heap.size (some ⟨w.heap.size + 1, 0, none⟩) 1 1 [0] rfl rfl HL.out (some ⟨w.heap.size, 0, none⟩) 16 16 k HK.out rfl (HB.out.src HK.out) (by omega) (by simp; omega) ?_; intro A5 c5 w5 hon5 hbl5 hg5; have HON5 := Lib.hid hon5; have b5 := b0.trans hbl5; clear hon5 hg5 hbl5)
  go_ret
  exact ⟨⟨A5, c5, rfl, HON5.out⟩, b5⟩
set_option maxHeartbeats 1000000 in
theorem refNodeText_any (a b : List UInt8) (w : World) (ha : a.length = 16) (hb : b.length = 16) : Calls Try.prog 128 #[.agg (cellsB a).toArray, .agg (cellsB b).toArray] w fun e w' => (∃ A c, e = .returned (.slice A 33 c) ∧ OB w.heap.size w' A c (nodeX a b)) ∧ Below w.heap.size w w' := by
  have HA := Lib.hid ha
  have HB := Lib.hid hb
  have HL := Lib.hid (lit_after2 w (.cells (cellsB a).toArray 23) (.cells (cellsB b).toArray 23) 1)
  have HBa := Lib.hid (blk_a0 w (cellsB a).toArray 23 (.cells (cellsB b).toArray 23) (.cells #[.int .u8 ((1 : UInt8).toNat : Int)] 5))
  have HBb := Lib.hid (blk_a1 w (.cells (cellsB a).toArray 23) (cellsB b).toArray 23 (.cells #[.int .u8 ((1 : UInt8).toNat : Int)] 5))
  have b0 := alloc3_bel w (.cells (cellsB a).toArray 23) (.cells (cellsB b).toArray 23) (.cells #[.int .u8 ((1 : UInt8).toNat : Int)] 5)
  have HAL : Hid ((([1] : List UInt8) ++ a).length = 17) := by unfold Hid; simp [ha]
  clear ha hb
  go_enter Try.func128, Try.ntmps128
  go_wp2_with (first
    | (at_builtin; refine wpList_append_bytes _ rfl (.tmp 6) (.tmp 7) rfl (w.heap.size + 1 + 1) (some ⟨w.heap.size + 1 + 1, 0, none⟩) 1 1 [1] rfl rfl HL.out (some ⟨w.heap.size, 0, none⟩) 16 16 a HA.out rfl (HBa.out.src HA.out) (by omega) (by simp) ?_; intro A5 c5 w5 hon5 hbl5 hg5; have HON5 := Lib.hid hon5; have HBb5 := Lib.hid (HBb.out.below hbl5 (by omega)); have b5 := b0.trans (hbl5.mono (by omega)); clear hon5 hg5 hbl5)
    | (at_builtin; refine wpList_append_bytes _ rfl (.tmp 9) (.tmp 10) rfl (w.heap.size + 1 + 1) A5 17 c5 ([1] ++ a) HAL.out rfl HON5.out (some ⟨w.heap.size + 1, 0, none⟩) 16 16 b HB.out rfl (HBb5.out.src HB.out) (by omega) (by have := HBb5.out.lt; omega) ?_; intro A6 c6 w6 hon6 hbl6 hg6; have HON6 := Lib.hid hon6; have b6 := b5.trans (hbl6.mono (by omega)); clear hon6 hg6 hbl6))
  go_ret
  exact ⟨⟨A6, c6, rfl, HON6.out.le_ (by omega)⟩, b6⟩
end Go.Proofs.Ytinpiodfpnbllaa

/- Lists of keys that the call owns: append. -/
namespace Go.Proofs.Ytinpiodfpnbllaa
open Go.RowKit
set_option linter.unusedVariables false

theorem OK16.below {B : Nat} {w w' : World} {A : Option Addr} {c : Nat} {ks : List (List UInt8)} (h : OK16 B w A c ks) (hb : Below w.heap.size w w') : OK16 B w' A c ks := ownsRow_below h hb
theorem OK16.le_ {B B' : Nat} {w : World} {A : Option Addr} {c : Nat} {ks : List (List UInt8)} (h : OK16 B w A c ks) (hB : B' ≤ B) : OK16 B' w A c ks :=
  ⟨h.1, h.2.elim Or.inl (fun ⟨g, cap, cur, hv, hg, r⟩ => Or.inr ⟨g, cap, cur, hv, Nat.le_trans hB hg, r⟩)⟩
theorem OK16.nil (B : Nat) (w : World) : OK16 B w none 0 [] := World.ownsRow_nil w B _ 16
theorem OK16.kr {B : Nat} {w : World} {A : Option Addr} {c : Nat} {ks : List (List UInt8)} (h : OK16 B w A c ks) (hk : Keys16 ks) (hl : ks.length ≤ 140737488351232) : KR w A c ks := ⟨Rd.of_own h hl, hk⟩
theorem src_key (w : World) {k : List UInt8} (hk : k.length = 16) : Src (w.alloc (.cells (cellsB k).toArray 23)) 16 (some ⟨w.heap.size, 0, none⟩) 1 (cellsK [k]) := by
  refine ⟨by rw [cellsK_one, cellsB_length, hk], .inr ⟨_, rfl, fun j u hu => ?_⟩⟩
  rw [Addr.add_lit, Nat.zero_add, (Blk.new w 23 (cellsB k).toArray).cell j]
  rw [cellsK_one] at hu
  simpa using hu
section
variable {md : Region.Mode} {ops : Array Oper} {Q : Exit → Act → World → Prop} {S : World → Prop} {fuel : Nat} {listed : Array Bool} {a : Act} {w : World}
/-- append to a list of keys that the call owns, the only operation that may come up. -/
theorem hd_appendK (i : Nat) {oi : Oper} (s x : Operand) (hi : ops[i]? = some oi) (ho : oi.op = .call { callee := .builtin .append, args := #[s, x], argTypes := #[40, 40] }) (hg : oi.guard = none) (hr : Region.ready md ops listed = [i])
    (B : Nat) (A : Option Addr) (n c : Nat) (ks : List (List UInt8)) (hn : ks.length = n) (hs : a.eval s = .slice A n c) (hown : OK16 B w A c ks)
    (X : Option Addr) (m d : Nat) (news : List (List UInt8)) (hm : news.length = m) (hx : a.eval x = .slice X m d) (hsrc : Src w 16 X m (cellsK news)) (hlen : n + m ≤ 1000000) (hB : B ≤ w.heap.size)
    (h : ∀ A' c' w', OK16 B w' A' c' (ks ++ news) → Below B w w' → S w' ∧ wpAnyH Try.prog md ops Q S fuel (listed.setIfInBounds i true) (a.put oi.dst (.slice A' (n + m) c')) w') : wpAnyH Try.prog md ops Q S (fuel + 1) listed a w := by
  obtain ⟨i0, hi0, hz0, hz1, hz2⟩ := info_parts key_info3
  subst hn hm
  obtain ⟨A', c', w', hrun, h2, h3, h4⟩ := run_append_src (P := Try.prog) w B 40 oi.type 23 i0 (.agg (cellsB zeroK).toArray) 16 16 Try.underlying40 hi0 hz0 hz1 hz2 rfl (by omega) A ks.length c (cellsK ks) hown X news.length d (cellsK news) hsrc (cells_oneK news) (by simp only [maxLen]; omega) (by omega) hB
  refine hd_one i hi hg hr ?_
  refine Lib.wp_append_run w s x 40 40 ho _ _ hs hx _ w' hrun ?_
  refine h A' c' w' ?_ (grown_below (Below.refl _ _) hown h3 hB (Nat.le_refl _))
  unfold OK16
  rw [cellsK_append, List.length_append]
  exact h2
end
end Go.Proofs.Ytinpiodfpnbllaa

/- Lists of entries that the call owns: literals, append. -/
namespace Go.Proofs.Ytinpiodfpnbllaa
open Go.RowKit
set_option linter.unusedVariables false

theorem OE.le_ {B B' : Nat} {w : World} {A : Option Addr} {c : Nat} {es : List Ent} (h : OE B w A c es) (hB : B' ≤ B) : OE B' w A c es :=
  ⟨h.1, h.2.elim Or.inl (fun ⟨g, cap, cur, hv, hg, r⟩ => Or.inr ⟨g, cap, cur, hv, Nat.le_trans hB hg, r⟩)⟩
theorem OE.lit (B : Nat) (w : World) (l : List Ent) (hB : B ≤ w.heap.size) (hl : l.length ≤ 1000000) {n : Nat} (hn : l.length = n) : OE B (w.alloc (.cells (cellsE l).toArray 79)) (some ⟨w.heap.size, 0, none⟩) n l := by
  subst hn
  exact World.ownsRow_lit (e := 79) (size := 2) w (cellsE l).toArray l.length hB (by simp only [maxLen]; omega) (by rw [List.size_toArray, cellsE_length])
theorem ER.src {w : World} {A : Option Addr} {c : Nat} {l : List Ent} (h : ER w A c l) {n : Nat} (hn : l.length = n) : Src w 2 A n (cellsE l) := by subst hn; exact Rd.src h
theorem src_litE {w : World} (l : List Ent) {n : Nat} (hn : l.length = n) : Src (w.alloc (.cells (cellsE l).toArray 79)) 2 (some ⟨w.heap.size, 0, none⟩) n (cellsE l) := by
  subst hn
  refine ⟨cellsE_length l, .inr ⟨_, rfl, fun j u hu => ?_⟩⟩
  rw [Addr.add_lit, Nat.zero_add]
  simpa using hu

theorem wpList_append_ents (w : World) {ops : Array Oper} {rest : List Oper} {o : Oper} {a : Act} {Q : Exit → Act → World → Prop} (hgd : o.guard = none) (s x : Operand)
    (ho : o.op = .call { callee := .builtin .append, args := #[s, x], argTypes := #[77, 77] })
    (B : Nat) (A : Option Addr) (n c : Nat) (l : List Ent) (hn : l.length = n) (hs : a.eval s = .slice A n c) (hown : OE B w A c l)
    (X : Option Addr) (m d : Nat) (news : List Ent) (hm : news.length = m) (hx : a.eval x = .slice X m d) (hsrc : Src w 2 X m (cellsE news))
    (hlen : n + m ≤ 1000000) (hB : B ≤ w.heap.size)
    (h : ∀ A' c' w', OE B w' A' c' (l ++ news) → Below B w w' → w.grownBy w' (Value.ownBlock (.slice A n c)) → wpList Try.prog ops Q rest (a.put o.dst (.slice A' (n + m) c')) w') : wpList Try.prog ops Q (o :: rest) a w := by
  obtain ⟨i0, hi, hz0, hz1, hz2⟩ := info_parts ent_info3
  subst hn hm
  refine wpList_append_src w hgd s x 77 ho B 79 i0 (.agg (cellsX (0, 0)).toArray) 2 16 Try.underlying77 hi hz0 hz1 hz2 rfl (by omega) A l.length c (cellsE l) hs hown X news.length d (cellsE news) hx hsrc (cells_oneE _)
    (by simp only [maxLen]; omega) (by omega) hB ?_
  intro A' c' w' h1 h2 h3
  refine h A' c' w' ?_ (grown_below (Below.refl _ _) hown h2 hB (Nat.le_refl _)) h2
  unfold OE
  rw [cellsE_append, List.length_append]
  exact h1
theorem wpList_append_keysE (w : World) {ops : Array Oper} {rest : List Oper} {o : Oper} {a : Act} {Q : Exit → Act → World → Prop} (hgd : o.guard = none) (s x : Operand)
    (ho : o.op = .call { callee := .builtin .append, args := #[s, x], argTypes := #[40, 40] })
    (B : Nat) (A : Option Addr) (n c : Nat) (ks : List (List UInt8)) (hn : ks.length = n) (hs : a.eval s = .slice A n c) (hown : OK16 B w A c ks)
    (X : Option Addr) (m d : Nat) (news : List (List UInt8)) (hm : news.length = m) (hx : a.eval x = .slice X m d) (hsrc : Src w 16 X m (cellsK news))
    (hlen : (n + m) * 16 ≤ 140737488355328) (hB : B ≤ w.heap.size)
    (h : ∀ A' c' w', OK16 B w' A' c' (ks ++ news) → Below B w w' → w.grownBy w' (Value.ownBlock (.slice A n c)) → wpList Try.prog ops Q rest (a.put o.dst (.slice A' (n + m) c')) w') : wpList Try.prog ops Q (o :: rest) a w := by
  obtain ⟨i0, hi, hz0, hz1, hz2⟩ := info_parts key_info3
  subst hn hm
  refine wpList_append_src w hgd s x 40 ho B 23 i0 (.agg (cellsB zeroK).toArray) 16 16 Try.underlying40 hi hz0 hz1 hz2 rfl (by omega) A ks.length c (cellsK ks) hs hown X news.length d (cellsK news) hx hsrc (cells_oneK news)
    (by simp only [maxLen]; omega) hlen hB ?_
  intro A' c' w' h1 h2 h3
  refine h A' c' w' ?_ (grown_below (Below.refl _ _) hown h2 hB (Nat.le_refl _)) h2
  unfold OK16
  rw [cellsK_append, List.length_append]
  exact h1

theorem endedE_isE {es : List Ent} (h : ∀ x ∈ es, isE x = true) : ∀ x ∈ endedE es, isE x = true := fun x hx => by
  rcases List.mem_cons.1 hx with rfl | hx
  · rfl
  · rcases List.mem_append.1 hx with hx | hx
    · exact h x hx
    · rw [List.mem_singleton.1 hx]; rfl
theorem leavesE_step {es : List Ent} {i : Nat} (h : i < (endedE es).length) : (leavesE es).take (i + 1) = (leavesE es).take i ++ [leafE (endedE es)[i]] := by
  have hl : i < (leavesE es).length := by unfold leavesE; simpa using h
  rw [List.take_succ_eq_append_getElem hl]
  congr 2
  simp [leavesE]
end Go.Proofs.Ytinpiodfpnbllaa

/- Lists of entries that the call owns, written in place. -/
namespace Go.Proofs.Ytinpiodfpnbllaa
open Go.RowKit
set_option linter.unusedVariables false

theorem cellsE_take (es : List Ent) (k : Nat) : (cellsE es).take (k * 2) = cellsE (es.take k) := by
  induction es generalizing k with
  | nil => simp [cellsE]
  | cons x es ih =>
    cases k with
    | zero => simp [cellsE]
    | succ k =>
      have e : ∀ es, cellsE (x :: es) = Value.int .i64 x.1 :: Value.int .i64 x.2 :: cellsE es := fun _ => rfl
      rw [List.take_succ_cons, e, e, show (k + 1) * 2 = k * 2 + 1 + 1 from by omega, List.take_succ_cons, List.take_succ_cons, ih]
theorem cellsE_set (es : List Ent) (i : Nat) (x : Ent) : cellsE (es.set i x) = ((cellsE es).set (i * 2) (.int .i64 x.1)).set (i * 2 + 1) (.int .i64 x.2) := by
  induction es generalizing i with
  | nil => simp [cellsE]
  | cons y es ih =>
    have e : ∀ (y : Ent) es, cellsE (y :: es) = Value.int .i64 y.1 :: Value.int .i64 y.2 :: cellsE es := fun _ _ => rfl
    cases i with
    | zero => rfl
    | succ i =>
      rw [List.set_cons_succ, e, e, ih, show (i + 1) * 2 = i * 2 + 1 + 1 from by omega]
      rfl
/-- A block of entries that the call owns, as it stands. -/
def EB (B : Nat) (w : World) (g c : Nat) (xs : List Ent) : Prop := B ≤ g ∧ ∃ cur, Blk w g 79 cur ∧ xs.length ≤ c ∧ c ≤ 9223372036854775807 ∧ cur.size = c * 2 ∧ cur.toList.take (xs.length * 2) = cellsE xs
section
variable {B : Nat} {w w' : World} {g c : Nat} {A : Option Addr} {xs es : List Ent}
theorem EB.of_own (h : OE B w A c es) (h0 : es ≠ []) : ∃ g, A = some ⟨g, 0, none⟩ ∧ EB B w g c es := by
  rcases h.2 with ⟨_, e0⟩ | ⟨g, cap, cur, e0, hb, hg, hn, hm, hs, ht⟩
  · exact absurd (List.eq_nil_of_length_eq_zero e0) h0
  · injection e0 with e1 _ e3
    subst e3
    exact ⟨g, e1, hb, cur, hg, hn, hm, hs, ht⟩
theorem EB.own (h : EB B w g c xs) : OE B w (some ⟨g, 0, none⟩) c xs := by
  obtain ⟨hb, cur, hg, hn, hm, hs, ht⟩ := h
  exact ⟨cellsE_length xs, .inr ⟨g, c, cur, rfl, hb, hg, hn, hm, hs, ht⟩⟩
theorem EB.lt (h : EB B w g c xs) : g < w.heap.size := by obtain ⟨_, cur, hg, _⟩ := h; exact hg.lt
theorem EB.len (h : EB B w g c xs) : xs.length ≤ c := by obtain ⟨_, cur, _, hn, _⟩ := h; exact hn
theorem EB.cap (h : EB B w g c xs) : c ≤ 9223372036854775807 := by obtain ⟨_, cur, _, _, hm, _⟩ := h; exact hm
theorem EB.below (h : EB B w g c xs) (hb : Below w.heap.size w w') : EB B w' g c xs := by
  obtain ⟨h1, cur, hg, h2⟩ := h
  exact ⟨h1, cur, hg.below' hb, h2⟩
theorem EB.drew (h : EB B w g c xs) : EB B w.drew g c xs := h
theorem EB.alloc (h : EB B w g c xs) (o : Obj) : EB B (w.alloc o) g c xs := h.below (alloc_bel w o)
theorem EB.take (h : EB B w g c xs) (k : Nat) (hk : k ≤ xs.length) : EB B w g c (xs.take k) := by
  obtain ⟨hb, cur, hg, hn, hm, hs, ht⟩ := h
  refine ⟨hb, cur, hg, by rw [List.length_take]; omega, hm, hs, ?_⟩
  rw [List.length_take, show min k xs.length = k from by omega, ← cellsE_take, ← ht, List.take_take, show min (k * 2) (xs.length * 2) = k * 2 from by omega]
theorem EB.get (h : EB B w g c xs) {j : Nat} {v : Value} (hv : (cellsE xs)[j]? = some v) : w.cell? ⟨g, j, none⟩ = some v := by
  obtain ⟨hb, cur, hg, hn, hm, hs, ht⟩ := h
  have hj : j < (cellsE xs).length := by
    rcases Nat.lt_or_ge j (cellsE xs).length with h' | h'
    · exact h'
    · rw [List.getElem?_eq_none h'] at hv; cases hv
  rw [cellsE_length] at hj
  rw [← ht, List.getElem?_take, if_pos hj] at hv
  rw [hg.cell, ← Array.getElem?_toList]
  exact hv
theorem EB.cell (h : EB B w g c xs) {i : Nat} (hi : i < xs.length) : w.cell? ⟨g, i * 2, none⟩ = some (.int .i64 xs[i].1) ∧ w.cell? ⟨g, i * 2 + 1, none⟩ = some (.int .i64 xs[i].2) :=
  ⟨h.get (cellsE_get xs i hi).1, h.get (cellsE_get xs i hi).2⟩
theorem EB.frozen (h : EB B w g c xs) (j : Nat) : w.frozen? ⟨g, j, none⟩ = false := by obtain ⟨_, cur, hg, _⟩ := h; exact hg.frozen j
theorem EB.isSome_ (h : EB B w g c xs) {j : Nat} (hj : j < c * 2) : (w.cell? ⟨g, j, none⟩).isSome = true := by
  obtain ⟨_, cur, hg, _, _, hs, _⟩ := h
  rw [hg.cell, Array.getElem?_eq_getElem (by omega)]; rfl
theorem EB.set_ (h : EB B w g c xs) (i : Nat) (x : Ent) : EB B ((w.setCell ⟨g, i * 2, none⟩ (.int .i64 x.1)).setCell ⟨g, i * 2 + 1, none⟩ (.int .i64 x.2)) g c (xs.set i x) := by
  obtain ⟨hb, cur, hg, hn, hm, hs, ht⟩ := h
  refine ⟨hb, _, (hg.set_ (i * 2) (.int .i64 x.1)).set_ (i * 2 + 1) (.int .i64 x.2), by simpa using hn, hm, by simpa using hs, ?_⟩
  rw [List.length_set, cellsE_set, ← ht]
  simp only [Array.toList_setIfInBounds, List.take_set]
theorem EB.far1 (h : EB B w g c xs) {o : Nat} (ho : xs.length * 2 ≤ o) (v : Value) : EB B (w.setCell ⟨g, o, none⟩ v) g c xs := by
  obtain ⟨hb, cur, hg, hn, hm, hs, ht⟩ := h
  refine ⟨hb, _, hg.set_ o v, hn, hm, by simpa using hs, ?_⟩
  rw [← ht]
  simp only [Array.toList_setIfInBounds]
  rw [List.take_set_of_le ho]
theorem EB.far (h : EB B w g c xs) : ∀ (vs : List Value) (o : Nat), xs.length * 2 ≤ o → EB B (w.setCells g o vs) g c xs := by
  intro vs
  induction vs generalizing w with
  | nil => intro o _; exact h
  | cons v vs ih => intro o ho; rw [World.setCells]; exact ih (h.far1 ho v) (o + 1) (by omega)
end
theorem below_setCells {B : Nat} {a w : World} {g : Nat} (hg : B ≤ g) : ∀ (vs : List Value) (o : Nat), Below B a w → Below B a (w.setCells g o vs) := by
  intro vs
  induction vs generalizing w with
  | nil => intro o h; exact h
  | cons v vs ih => intro o h; rw [World.setCells]; exact ih (o + 1) (h.setCell (p := ⟨g, o, none⟩) hg v)
theorem zeros_ent (n : Nat) : (Builtin.zeroCells #[Value.int .i64 0, Value.int .i64 0] n).toList = List.replicate (n * 2) (.int .i64 0) := by
  apply List.ext_getElem
  · simp [Builtin.zeroCells]
  · intro i h1 h2
    simp only [Builtin.zeroCells, Array.toList_map, Array.toList_range, List.getElem_map, List.getElem_range, List.getElem_replicate]
    rcases Nat.mod_two_eq_zero_or_one i with h | h
    · simp [h]
    · simp [h]
theorem run_clear_ents (w : World) (ty : TypeId) (B g n k c c0 : Nat) (xs : List Ent) (h : EB B w g c xs) (hn : 0 < n) (hk : k + n ≤ c) :
    (Builtin.clear_ #[77] ty #[.slice (some ⟨g, k * 2, none⟩) n c0]).run Try.prog w = .ok (.tuple #[]) (w.setCells g (k * 2) (List.replicate (n * 2) (.int .i64 0))) := by
  have hst := run_storeCells_cells (P := Try.prog) g (k * 2) (List.replicate (n * 2) (.int .i64 0)) 0 w (fun j hj => by rw [List.length_replicate] at hj; rw [Nat.add_zero]; exact h.isSome_ (by omega)) (fun j hj => h.frozen _) (by intro v hv; rw [List.eq_of_mem_replicate hv]; rfl)
  simp only [Nat.add_zero] at hst
  have hzc := zeros_ent n
  have hv := fun w => Try.zeroValue79 w
  obtain ⟨m, rfl⟩ : ∃ m, n = m + 1 := ⟨n - 1, by omega⟩
  simp only [Builtin.clear_]
  simp [run_underlying Try.underlying77, hv, Value.cells, hzc, hst]
theorem wpList_clear_ents (w : World) {ops : Array Oper} {rest : List Oper} {o : Oper} {a : Act} {Q : Exit → Act → World → Prop} (hgd : o.guard = none) (s : Operand)
    (ho : o.op = .call { callee := .builtin .clear, args := #[s], argTypes := #[77] }) (B g n k c c0 : Nat) (xs : List Ent) (hs : a.eval s = .slice (some ⟨g, k * 2, none⟩) n c0) (h : EB B w g c xs) (hn : 0 < n) (hk : k + n ≤ c)
    (hK : wpList Try.prog ops Q rest (a.put o.dst (.tuple #[])) (w.setCells g (k * 2) (List.replicate (n * 2) (.int .i64 0)))) : wpList Try.prog ops Q (o :: rest) a w := by
  refine wpList_plain hgd fun K hK' => ?_
  have hrun := run_clear_ents w o.type B g n k c c0 xs h hn hk
  unfold Oper.wp execOp
  simp only [ho, resolve, invoke, builtin, Sem.run_bind, Sem.run_pure, Result.andThen_ok, List.map_toArray, List.map_cons, List.map_nil, hs, hrun]
  exact hK' _ _ hK
theorem slice_ents_from (W : World) (g m c n o : Nat) (h : n < m) (hm : m ≤ c) :
    (Instr.slice 77 (.slice (some ⟨g, o, none⟩) m c) (some (.int .i64 (n : Int))) none none).run Try.prog W = .ok (.slice (some ⟨g, o + n * 2, none⟩) (m - n) (c - n)) W := by
  have e : Try.prog.elem 77 = 79 := by kernel_rfl
  rw [run_slice_l (P := Try.prog) (w := W) 77 (some ⟨g, o, none⟩) m c (by rw [e]; exact Try.underlying77) .i64 n (by omega) (by omega), e, Try.sizeOf79 W]
  have hne : ¬ c = n := by omega
  simp [Result.andThen, sliced, hne, Addr.add]
theorem slice_ents_to (W : World) (A : Option Addr) (m c n : Nat) (h : n ≤ c) :
    (Instr.slice 77 (.slice A m c) none (some (.int .i64 (n : Int))) none).run Try.prog W = .ok (.slice A n c) W := by
  have e : Try.prog.elem 77 = 79 := by kernel_rfl
  rw [run_slice_h (P := Try.prog) (w := W) 77 A m c (by rw [e]; exact Try.underlying77) .i64 n (by omega) (by omega), e, Try.sizeOf79 W]
  simp [Result.andThen, sliced]
  intro _
  rcases A with _ | ⟨b, o, s⟩
  · rfl
  · cases s <;> simp [Addr.add]
end Go.Proofs.Ytinpiodfpnbllaa

/- Entries sorted: the comparison, and slices.SortFunc at it. -/
namespace Go.Proofs.Ytinpiodfpnbllaa
open Go.RowKit Go.Sort Go.Shelf
set_option linter.unusedVariables false
set_option linter.unusedSimpArgs false

def orI (a b : Int) : Int := if a = 0 then b else a
/-- What the comparison of two entries is. -/
def cfE (x y : Ent) : Int := orI (Lib.compareInt x.1 y.1) (Lib.compareInt y.2 x.2)

theorem isNaN_any (x : Int) (w : World) : Calls Try.prog 141 #[.int .i64 x] w fun e w' => e = .returned (.bool false) ∧ w' = w := by
  go_enter Try.func141, Try.ntmps141
  go_wp2_with fail
  go_ret
  exact ⟨by simp, rfl⟩

set_option maxHeartbeats 2000000 in
theorem compare_any (x y : Int) (w : World) : Calls Try.prog 98 #[.int .i64 x, .int .i64 y] w fun e w' => e = .returned (.int .i64 (Lib.compareInt x y)) ∧ w' = w := by
  have hn := fun z W => isNaN_any z W
  rcases Int.lt_trichotomy x y with h | h | h
  · have HF : Hid (Lib.compareInt x y = -1) := by unfold Hid Lib.compareInt; rw [if_pos h]
    go_enter Try.func98, Try.ntmps98
    go_wp2_with (go_at_call 141; refine (isNaN_any _ _).mono ?_; rintro e w' ⟨rfl, rfl⟩)
    go_ret
    exact ⟨by rw [HF.out]; rfl, rfl⟩
  · have HF : Hid (Lib.compareInt x y = 0) := by unfold Hid Lib.compareInt; rw [if_neg (by omega), if_neg (by omega)]
    have h1 : ¬ x < y := by omega
    have h2 : ¬ y < x := by omega
    clear h
    go_enter Try.func98, Try.ntmps98
    go_wp2_with (go_at_call 141; refine (isNaN_any _ _).mono ?_; rintro e w' ⟨rfl, rfl⟩)
    go_ret
    exact ⟨by rw [HF.out]; rfl, rfl⟩
  · have HF : Hid (Lib.compareInt x y = 1) := by unfold Hid Lib.compareInt; rw [if_neg (by omega), if_pos (by omega)]
    have h1 : ¬ x < y := by omega
    go_enter Try.func98, Try.ntmps98
    go_wp2_with (go_at_call 141; refine (isNaN_any _ _).mono ?_; rintro e w' ⟨rfl, rfl⟩)
    go_ret
    exact ⟨by rw [HF.out]; rfl, rfl⟩

set_option maxHeartbeats 2000000 in
theorem or_any (a b : Int) (g : Nat) (w : World) (c0 : w.cell? ⟨g, 0, none⟩ = some (.int .i64 a)) (c1 : w.cell? ⟨g, 1, none⟩ = some (.int .i64 b)) :
    Calls Try.prog 97 #[.slice (some ⟨g, 0, none⟩) 2 2] w fun e w' => e = .returned (.int .i64 (orI a b)) ∧ w' = w := by
  have HO : Hid (∀ i : Nat, (i = 0 ∨ i = 1 ∧ a = 0 ∨ i = 2 ∧ a = 0 ∧ b = 0) → i ≤ 2) := fun i h => by omega
  have C0 := Lib.hid c0
  have C1 := Lib.hid c1
  clear c0 c1
  go_enter Try.func97, Try.ntmps97
  go_wp2_with fail
  go_loop [8] (fun i => ∃ k : Nat, i = .int .i64 (k : Int) ∧ Hid (k = 0 ∨ k = 1 ∧ a = 0 ∨ k = 2 ∧ a = 0 ∧ b = 0)) (fun i => 2 - (intOf i).toNat)
  case atStart => exact ⟨0, rfl, .inl rfl⟩
  case round =>
    obtain ⟨k, rfl, hk⟩ := hrel
    rcases hk.out with rfl | ⟨rfl, h0⟩ | ⟨rfl, h0, h1⟩
    · have c0 := C0.out
      by_cases ha : a = 0
      · have s0 : (a == 0) = true := by simpa using ha
        have HA := Lib.hid ha
        clear ha
        go_wp2_with fail
        go_round
        case rel => exact ⟨1, rfl, .inr (.inl ⟨rfl, HA.out⟩)⟩
        case measure => simp [intOf]
      · have s0 : (a == 0) = false := by simpa using ha
        have HF : Hid (orI a b = a) := by unfold Hid orI; rw [if_neg ha]
        clear ha
        go_wp2_with fail
        go_ret
        exact ⟨by rw [HF.out]; rfl, rfl⟩
    · have c1 := C1.out
      have H0 := Lib.hid h0
      clear h0
      by_cases hb : b = 0
      · have s0 : (b == 0) = true := by simpa using hb
        have HB := Lib.hid hb
        clear hb
        go_wp2_with fail
        go_round
        case rel => exact ⟨2, rfl, .inr (.inr ⟨rfl, H0.out, HB.out⟩)⟩
        case measure => simp [intOf]
      · have s0 : (b == 0) = false := by simpa using hb
        have HF : Hid (orI a b = b) := by unfold Hid orI; rw [if_pos H0.out]
        clear hb
        go_wp2_with fail
        go_ret
        exact ⟨by rw [HF.out]; rfl, rfl⟩
    · have HF : Hid (orI a b = 0) := by unfold Hid orI; rw [if_pos h0, h1]
      clear h0 h1
      go_wp2_with fail
      go_ret
      exact ⟨by rw [HF.out]; rfl, rfl⟩
end Go.Proofs.Ytinpiodfpnbllaa

/- Guarded operations in regions that draw. -/
namespace Go.Proofs.Ytinpiodfpnbllaa
open Go.RowKit
set_option linter.unusedVariables false

section
variable {P : Program} {md : Region.Mode} {ops : Array Oper} {Q : Exit → Act → World → Prop} {S : World → Prop} {fuel : Nat} {listed : Array Bool} {a : Act} {w : World}
/-- A guarded load of a row that is wanted. -/
theorem hg_load (i : Nat) {oi : Oper} (g o : Nat) (cs : List Value) (ty : TypeId) (x : Operand) {d : TypeDesc} (hi : ops[i]? = some oi) (ho : oi.op = .load ty x) (hg : Region.wanted oi (yielded ops a.tmps) = true)
    (hs : Region.noSelect ops = true) (hf : Region.free md ops listed i = true) (hr : (Region.ready md ops listed).contains i = true) (hQ : ∀ c a w, Q (.panic c) (a.put oi.dst (.agg cs.toArray)) w → Q (.panic c) a w)
    (hx : a.eval x = .pointer (some ⟨g, o, none⟩)) (hS : ∀ w, S w → w.rangeAt g o cs) (hu : P.underlying ty = some d) (hd : d.isRow = true) (hn : (P.info? ty).map (·.size) = some cs.length) (hw : S w)
    (h : wpAnyH P md ops Q S fuel (listed.setIfInBounds i true) (a.put oi.dst (.agg cs.toArray)) w) : wpAnyH P md ops Q S (fuel + 1) listed a w :=
  wpAnyH_take hi hs hf hr hQ (yieldsIf_load_mid hg ty x ho g o hx cs d hS hu hd hn) hw h
/-- A guarded one that is wanted and yields a value. -/
theorem hg_take (i : Nat) {oi : Oper} (v : Value) (hi : ops[i]? = some oi) (hg : Region.wanted oi (yielded ops a.tmps) = true)
    (hs : Region.noSelect ops = true) (hf : Region.free md ops listed i = true) (hr : (Region.ready md ops listed).contains i = true) (hQ : ∀ c a w, Q (.panic c) (a.put oi.dst v) w → Q (.panic c) a w)
    (hy : ∀ w, S w → (execOp a.eval oi).run P w = .ok (.value v) w) (hw : S w)
    (h : wpAnyH P md ops Q S fuel (listed.setIfInBounds i true) (a.put oi.dst v) w) : wpAnyH P md ops Q S (fuel + 1) listed a w :=
  wpAnyH_take hi hs hf hr hQ (.inl ⟨hg, hy⟩) hw h
/-- A guarded one that is not wanted. -/
theorem hg_skip (i : Nat) {oi : Oper} (hi : ops[i]? = some oi) (hg : Region.wanted oi (yielded ops a.tmps) = false)
    (hs : Region.noSelect ops = true) (hf : Region.free md ops listed i = true) (hr : (Region.ready md ops listed).contains i = true) (hQ : ∀ c a w, Q (.panic c) (a.put oi.dst undef) w → Q (.panic c) a w)
    (hw : S w) (h : wpAnyH P md ops Q S fuel (listed.setIfInBounds i true) (a.put oi.dst undef) w) : wpAnyH P md ops Q S (fuel + 1) listed a w :=
  wpAnyH_take hi hs hf hr hQ (.inr ⟨hg, rfl⟩) hw h
/-- A guarded call that is wanted, the only one that may come up. -/
theorem hg_calls (i : Nat) {oi : Oper} (f : FuncId) (args : Array Value) (hi : ops[i]? = some oi) (hg : Region.wanted oi (yielded ops a.tmps) = true) (hr : Region.ready md ops listed = [i]) (hrun : (execOp a.eval oi).run P w = .ok (.enter f args) w)
    (h : Calls P f args w fun e w' => ∃ v, e = .returned v ∧ S w' ∧ wpAnyH P md ops Q S fuel (listed.setIfInBounds i true) (a.put oi.dst v) w') : wpAnyH P md ops Q S (fuel + 1) listed a w := by
  refine wpAnyH_all hr (by simp) fun j hj => ?_
  rw [List.mem_singleton] at hj
  subst hj
  unfold wpOp
  simp only [hi, hg, if_true]
  refine .inl ?_
  unfold Oper.wp
  rw [hrun]
  refine h.mono fun e w' hv => ?_
  obtain ⟨v, rfl, hk⟩ := hv
  exact hk
end
end Go.Proofs.Ytinpiodfpnbllaa

/- The closures of Merge and Prune. -/
namespace Go.Proofs.Ytinpiodfpnbllaa
open Go.RowKit Go.Sort Go.Shelf
set_option linter.unusedVariables false
set_option linter.unusedSimpArgs false

theorem grown3 (W : World) (o0 o1 o2 : Obj) : ∃ q os', (((W.alloc o0).alloc o1).drew).alloc o2 = grow (W.drewN q) os' :=
  ⟨1, #[o0, o1, o2], by rw [alloc_eq_grow, alloc_eq_grow, alloc_eq_grow, drew_grow, drew_grow, grow_grow, grow_grow]; rfl⟩

set_option maxHeartbeats 4000000 in
set_option maxRecDepth 100000 in
theorem mergeCmp_any (x y : Ent) (W : World) : Calls Try.prog 96 #[.agg (cellsX x).toArray, .agg (cellsX y).toArray] W fun e w' => e = .returned (.int .i64 (cfE x y)) ∧ ∃ q os', w' = grow (W.drewN q) os' := by
  obtain ⟨x0, x1⟩ := x
  obtain ⟨y0, y1⟩ := y
  have HF : Hid (cfE (x0, x1) (y0, y1) = orI (Lib.compareInt x0 y0) (Lib.compareInt y1 x1)) := rfl
  simp only [cellsX]
  have HC0 : Hid (∀ W', Calls Try.prog 98 #[.int .i64 x0, .int .i64 y0] W' fun e w' => e = .returned (.int .i64 (Lib.compareInt x0 y0)) ∧ w' = W') := fun W' => compare_any x0 y0 W'
  have HC1 : Hid (∀ W', Calls Try.prog 98 #[.int .i64 y1, .int .i64 x1] W' fun e w' => e = .returned (.int .i64 (Lib.compareInt y1 x1)) ∧ w' = W') := fun W' => compare_any y1 x1 W'
  generalize cfE (x0, x1) (y0, y1) = z at HF ⊢
  generalize Lib.compareInt x0 y0 = p at *
  generalize Lib.compareInt y1 x1 = q at *
  have B0 := blk_b0 W #[.int .i64 x0, .int .i64 x1] 79 (.cells #[.int .i64 y0, .int .i64 y1] 79)
  have B1 := blk_b1 W (.cells #[.int .i64 x0, .int .i64 x1] 79) #[.int .i64 y0, .int .i64 y1] 79
  have HG := Lib.hid (grown3 W (.cells #[.int .i64 x0, .int .i64 x1] 79) (.cells #[.int .i64 y0, .int .i64 y1] 79) (.cells #[.int .i64 p, .int .i64 q] 3))
  go_enter Try.func96, Try.ntmps96
  go_wp2_with fail
  generalize (W.alloc (.cells #[.int .i64 x0, .int .i64 x1] 79)).alloc (.cells #[.int .i64 y0, .int .i64 y1] 79) = W2 at B0 B1 HG ⊢
  have k0 : W2.drew.cell? ⟨W.heap.size, 0, none⟩ = some (.int .i64 x0) := B0.drew.cell 0
  have k1 : W2.drew.cell? ⟨W.heap.size, 1, none⟩ = some (.int .i64 x1) := B0.drew.cell 1
  have k2 : W2.drew.cell? ⟨W.heap.size + 1, 0, none⟩ = some (.int .i64 y0) := B1.drew.cell 0
  have k3 : W2.drew.cell? ⟨W.heap.size + 1, 1, none⟩ = some (.int .i64 y1) := B1.drew.cell 1
  have B2 := (B0.drew.alloc (.cells #[.int .i64 p, .int .i64 q] 3))
  have B3 := (B1.drew.alloc (.cells #[.int .i64 p, .int .i64 q] 3))
  have N4 := Blk.new W2.drew 3 #[.int .i64 p, .int .i64 q]
  refine wp_region_noPanic ?_
  refine wp_region_held_drew (S := fun w' => (w'.cell? ⟨W.heap.size, 0, none⟩ = some (.int .i64 x0) ∧ w'.cell? ⟨W.heap.size, 1, none⟩ = some (.int .i64 x1)) ∧ (w'.cell? ⟨W.heap.size + 1, 0, none⟩ = some (.int .i64 y0) ∧ w'.cell? ⟨W.heap.size + 1, 1, none⟩ = some (.int .i64 y1))) (by kernel_rfl) ⟨⟨k0, k1⟩, k2, k3⟩ (fun hS => ?_)
  refine hd_take 0 (_) rfl rfl (by kernel_rfl) (by kernel_rfl) (by kernel_rfl) (fun _ _ _ h => h) (fun w hw => by go_simp <;> rfl) hS ?_
  refine hd_take 2 (_) rfl rfl (by kernel_rfl) (by kernel_rfl) (by kernel_rfl) (fun _ _ _ h => h) (fun w hw => by go_simp <;> rfl) hS ?_
  refine hd_take 5 (_) rfl rfl (by kernel_rfl) (by kernel_rfl) (by kernel_rfl) (fun _ _ _ h => h) (fun w hw => by go_simp <;> rfl) hS ?_
  refine hd_take 7 (_) rfl rfl (by kernel_rfl) (by kernel_rfl) (by kernel_rfl) (fun _ _ _ h => h) (fun w hw => by go_simp <;> rfl) hS ?_
  simp only [List.getElem_toArray, List.getElem_cons_succ, List.getElem_cons_zero, Act.put, List.setIfInBounds_toArray, List.set_cons_zero, List.set_cons_succ]
  refine hd_take 1 (.int .i64 x0) rfl rfl (by kernel_rfl) (by kernel_rfl) (by kernel_rfl) (fun _ _ _ h => h) (fun w hw => by have hx := hw.1.1; simp [go_sem, hx]) hS ?_
  refine hd_take 3 (.int .i64 y0) rfl rfl (by kernel_rfl) (by kernel_rfl) (by kernel_rfl) (fun _ _ _ h => h) (fun w hw => by have hx := hw.2.1; simp [go_sem, hx]) hS ?_
  refine hd_take 6 (.int .i64 y1) rfl rfl (by kernel_rfl) (by kernel_rfl) (by kernel_rfl) (fun _ _ _ h => h) (fun w hw => by have hx := hw.2.2; simp [go_sem, hx]) hS ?_
  refine hd_take 8 (.int .i64 x1) rfl rfl (by kernel_rfl) (by kernel_rfl) (by kernel_rfl) (fun _ _ _ h => h) (fun w hw => by have hx := hw.1.2; simp [go_sem, hx]) hS ?_
  simp only [List.getElem_toArray, List.getElem_cons_succ, List.getElem_cons_zero, Act.put, List.setIfInBounds_toArray, List.set_cons_zero, List.set_cons_succ]
  have HS4 := Lib.hid (show ((W2.drew.alloc (.cells #[.int .i64 p, .int .i64 q] 3)).cell? ⟨W.heap.size, 0, none⟩ = some (.int .i64 x0) ∧ (W2.drew.alloc (.cells #[.int .i64 p, .int .i64 q] 3)).cell? ⟨W.heap.size, 1, none⟩ = some (.int .i64 x1)) ∧ ((W2.drew.alloc (.cells #[.int .i64 p, .int .i64 q] 3)).cell? ⟨W.heap.size + 1, 0, none⟩ = some (.int .i64 y0) ∧ (W2.drew.alloc (.cells #[.int .i64 p, .int .i64 q] 3)).cell? ⟨W.heap.size + 1, 1, none⟩ = some (.int .i64 y1)) from ⟨⟨B2.cell 0, B2.cell 1⟩, B3.cell 0, B3.cell 1⟩)
  refine hd_calls 4 98 #[.int .i64 x0, .int .i64 y0] rfl rfl (by kernel_rfl) (by go_simp <;> rfl) ?_
  refine (HC0.out _).mono ?_
  rintro e w7 ⟨rfl, rfl⟩
  refine ⟨_, rfl, hS, ?_⟩
  simp only [List.getElem_toArray, List.getElem_cons_succ, List.getElem_cons_zero, Act.put, List.setIfInBounds_toArray, List.set_cons_zero, List.set_cons_succ]
  refine hd_calls 9 98 #[.int .i64 y1, .int .i64 x1] rfl rfl (by kernel_rfl) (by go_simp <;> rfl) ?_
  refine (HC1.out _).mono ?_
  rintro e w12 ⟨rfl, rfl⟩
  refine ⟨_, rfl, hS, ?_⟩
  simp only [List.getElem_toArray, List.getElem_cons_succ, List.getElem_cons_zero, Act.put, List.setIfInBounds_toArray, List.set_cons_zero, List.set_cons_succ]
  refine hd_sole 10 (by kernel_rfl) (op_run (.slice (some ⟨W2.heap.size, 0, none⟩) 2 2) (W2.drew.alloc (.cells #[.int .i64 p, .int .i64 q] 3)) rfl rfl (by simp [go_sem] <;> rfl) ⟨HS4.out, ?_⟩)
  simp only [List.getElem_toArray, List.getElem_cons_succ, List.getElem_cons_zero, Act.put, List.setIfInBounds_toArray, List.set_cons_zero, List.set_cons_succ]
  refine hd_calls 11 97 #[.slice (some ⟨W2.heap.size, 0, none⟩) 2 2] rfl rfl (by kernel_rfl) (by go_simp <;> rfl) ?_
  refine (or_any p q W2.heap.size _ (N4.cell 0) (N4.cell 1)).mono ?_
  rintro e w5 ⟨rfl, rfl⟩
  refine ⟨_, rfl, HS4.out, ?_⟩
  simp only [List.getElem_toArray, List.getElem_cons_succ, List.getElem_cons_zero, Act.put, List.setIfInBounds_toArray, List.set_cons_zero, List.set_cons_succ]
  refine hd_take 12 (_) rfl rfl (by kernel_rfl) (by kernel_rfl) (by kernel_rfl) (fun _ _ _ h => h) (fun w hw => by go_simp <;> rfl) HS4.out ?_
  simp only [List.getElem_toArray, List.getElem_cons_succ, List.getElem_cons_zero, Act.put, List.setIfInBounds_toArray, List.set_cons_zero, List.set_cons_succ]
  refine wpAnyH_done (by kernel_rfl) (NoPanic.normal ?_) _
  clear hS k0 k1 k2 k3
  go_wp2_with fail
  go_ret
  exact ⟨by rw [HF.out]; rfl, HG.out⟩

set_option maxHeartbeats 4000000 in
set_option maxRecDepth 100000 in
theorem mergeEq_any (x y : Ent) (W : World) : Calls Try.prog 100 #[.agg (cellsX x).toArray, .agg (cellsX y).toArray] W fun e w' => e = .returned (.bool (x.1 == y.1)) ∧ Below W.heap.size W w' := by
  obtain ⟨x0, x1⟩ := x
  obtain ⟨y0, y1⟩ := y
  simp only [cellsX]
  have b0 := alloc2_bel W (.cells #[.int .i64 x0, .int .i64 x1] 79) (.cells #[.int .i64 y0, .int .i64 y1] 79)
  go_enter Try.func100, Try.ntmps100
  go_wp2_with fail
  go_ret
  exact ⟨rfl, b0⟩

set_option maxHeartbeats 4000000 in
set_option maxRecDepth 100000 in
theorem pruneLess_any (x : Ent) (z : Int) (p : Addr) (W : World) (hp : W.cell? p = some (.int .i64 z)) : Calls Try.prog 103 #[.agg (cellsX x).toArray, .pointer (some p)] W fun e w' => e = .returned (.bool (decide (x.2 < z))) ∧ Below W.heap.size W w' := by
  obtain ⟨x0, x1⟩ := x
  simp only [cellsX]
  have b0 := alloc_bel W (.cells #[.int .i64 x0, .int .i64 x1] 79)
  have hlt := World.block_lt_of_cell? W _ hp
  have hc : (W.alloc (.cells #[.int .i64 x0, .int .i64 x1] 79)).cell? p = some (.int .i64 z) := (b0.cell hlt).trans hp
  clear hp hlt
  go_enter Try.func103, Try.ntmps103
  go_wp2_with fail
  go_ret
  exact ⟨rfl, b0⟩
end Go.Proofs.Ytinpiodfpnbllaa

/- slices.SortFunc at entries. -/
namespace Go.Proofs.Ytinpiodfpnbllaa
open Go.RowKit Go.Sort Go.Shelf
set_option linter.unusedVariables false

theorem cfE_lt (x y : Ent) : ltOf cfE x y = decide (x.1 < y.1 ∨ (x.1 = y.1 ∧ y.2 < x.2)) := by
  unfold ltOf cfE orI Lib.compareInt
  rcases Int.lt_trichotomy x.1 y.1 with h | h | h
  · simp [h]
  · rcases Int.lt_trichotomy y.2 x.2 with h' | h' | h'
    · simp [h, h']
    · simp [h, h']
    · have : ¬ y.2 < x.2 := by omega
      simp [h, this, h']
  · have h1 : ¬ x.1 < y.1 := by omega
    have h2 : ¬ x.1 = y.1 := by omega
    simp [h, h1, h2]
theorem swoE : SWO (ltOf cfE) where
  irrefl x := by rw [cfE_lt]; simp
  trans x y z h1 h2 := by rw [cfE_lt] at *; simp only [decide_eq_true_eq] at *; omega
  ntrans x y z h1 h2 := by rw [cfE_lt] at *; simp only [decide_eq_false_iff_not] at *; omega
theorem totE (x y : Ent) (h1 : ltOf cfE x y = false) (h2 : ltOf cfE y x = false) : x = y := by
  rw [cfE_lt] at h1 h2
  simp only [decide_eq_false_iff_not] at h1 h2
  obtain ⟨a, b⟩ := x
  obtain ⟨c, d⟩ := y
  simp only at h1 h2
  have e1 : a = c := by omega
  have e2 : b = d := by omega
  rw [e1, e2]
/-- The entries in the order of their receivers, of one receiver the later one first. -/
def sortE (es : List Ent) : List Ent := es.mergeSort fun x y => !(ltOf cfE) y x
theorem sortE_perm (es : List Ent) : (sortE es).Perm es := List.mergeSort_perm _ _
theorem sortE_length (es : List Ent) : (sortE es).length = es.length := (sortE_perm es).length_eq
theorem sortE_mem (es : List Ent) (x : Ent) : x ∈ sortE es ↔ x ∈ es := (sortE_perm es).mem_iff
theorem sortE_sorted (es : List Ent) : (sortE es).Pairwise leE := by
  have h := List.pairwise_mergeSort (le := fun x y => !(ltOf cfE) y x) (fun x y z h1 h2 => by
    simp only [cfE_lt, Bool.not_eq_true', decide_eq_false_iff_not] at *
    omega) (fun x y => by
    simp only [cfE_lt, Bool.or_eq_true, Bool.not_eq_true', decide_eq_false_iff_not]
    omega) es
  refine h.imp fun {x y} hxy => ?_
  simp only [cfE_lt, Bool.not_eq_true', decide_eq_false_iff_not] at hxy
  unfold leE
  omega

theorem flatK_ents (es : List Ent) : flatK cellsX 2 es.toArray = (cellsE es).toArray := by
  have hl := cellsE_length es
  refine ext_get! (by simp [hl]) fun t ht => ?_
  have ht' : t < es.length * 2 := by simpa using ht
  have hi : t / 2 < es.length := by omega
  rw [get_flatK _ _ _ _ (by simpa using ht')]
  have e1 : es.toArray[t / 2]! = es[t / 2] := by rw [getElem!_pos es.toArray (t / 2) (by simpa using hi)]; simp
  rw [e1]
  have hg := cellsE_get es (t / 2) hi
  have h3 : (cellsE es).toArray[t]! = (cellsE es)[t]'(by omega) := by rw [getElem!_pos (cellsE es).toArray t (by simp [hl]; omega)]; simp
  rw [h3]
  rcases Nat.mod_two_eq_zero_or_one t with h | h
  · have e : t / 2 * 2 = t := by omega
    rw [e, List.getElem?_eq_getElem (by omega)] at hg
    rw [Option.some.inj hg.1, h]; rfl
  · have e : t / 2 * 2 + 1 = t := by omega
    rw [e, List.getElem?_eq_getElem (show t < (cellsE es).length by omega)] at hg
    rw [Option.some.inj hg.2, h]; rfl
theorem EB.holds {B : Nat} {w : World} {g c : Nat} {es : List Ent} (h : EB B w g c es) : HoldsK cellsX 2 w g 0 es.toArray := by
  unfold HoldsK
  rw [flatK_ents]
  intro j hj
  have hj' : j < (cellsE es).length := by simpa using hj
  refine ⟨?_, by rw [Nat.zero_add]; exact h.frozen j⟩
  rw [Nat.zero_add, h.get (List.getElem?_eq_getElem hj'), getElem!_pos (cellsE es).toArray j (by simpa using hj')]
  simp
theorem EB.put {B : Nat} {w : World} {g c q : Nat} {es ys : List Ent} (h : EB B w g c es) (hl : ys.length = es.length) : EB B (putRowK cellsX 2 (Sort.ahead w q) g 0 ys.toArray) g c ys := by
  have hcl := cellsE_length ys
  obtain ⟨hb, cur, hg, hn, hm, hs, ht⟩ := h
  refine ⟨hb, putCells id 0 (cellsE ys).toArray cur, ?_, by omega, hm, by simpa [putCells] using hs, ?_⟩
  · unfold Blk at hg ⊢
    unfold putRowK
    rw [flatK_ents]
    simp [putRow, mapBlock, Sort.ahead, Array.getElem?_modify, hg, onCells]
  · apply List.ext_getElem?
    intro j
    rw [List.getElem?_take, Array.getElem?_toList]
    by_cases hj : j < ys.length * 2
    · have hjc : j < cur.size := by omega
      simp only [if_pos hj, putCells, Array.getElem?_mapIdx, Array.getElem?_eq_getElem hjc, Option.map_some]
      rw [if_pos (by simp [hcl]; omega), List.getElem?_eq_getElem (by omega)]
      simp [getElem!_pos, show j < (cellsE ys).length by omega]
    · rw [if_neg hj, List.getElem?_eq_none (by omega)]
theorem EB.grow_ {B : Nat} {w : World} {g c : Nat} {es : List Ent} (h : EB B w g c es) (os : Array Obj) : EB B (Sort.grow w os) g c es := by
  obtain ⟨hb, cur, hg, h2⟩ := h
  exact ⟨hb, cur, (heap_grow_old w os hg.lt).trans hg, h2⟩
theorem below_grow {B : Nat} {a w : World} (h : Below B a w) (hB : B ≤ w.heap.size) (os : Array Obj) : Below B a (Sort.grow w os) :=
  ⟨h.os, h.tape, h.output, by rw [size_grow]; have := h.size; omega, fun k hk => (heap_grow_old w os (by omega)).trans (h.block k hk)⟩

theorem sort_any {B : Nat} (es : List Ent) (g c : Nat) (w : World) {n : Nat} (hn : es.length = n) (h : EB B w g c es) (hB : B ≤ w.heap.size) (hs : n ≤ 1000000) :
    Calls Try.prog 95 #[.slice (some ⟨g, 0, none⟩) n c, .func (.func 96) #[] #[]] w fun e w' => e = .returned (.tuple #[]) ∧ EB B w' g c (sortE es) ∧ Below B w w' := by
  subst hn
  have eg : ∀ args w, (callFunc 96 args).run Try.prog w = .ok (.enter 96 args) w := enters_of Try.func96 (by kernel_rfl) rfl
  have hc : Go.Proofs.CmpLays Try.prog 96 #[] cellsX 2 cfE g 0 es.toArray.size w := fun m os dk _ x y => by
    have := mergeCmp_any x y (sortWorldK cellsX 2 w g 0 m dk os)
    simpa using this
  have hcon := AnyQ.slices_SortFunc_total Try.sortE 2 Try.isAgg79 Try.sizeOf79 cellsX (fun _ => rfl) (fun x v hv => by simp [cellsX] at hv; rcases hv with rfl | rfl <;> rfl) cfE swoE 96 #[] g 0 c es.toArray w eg hc h.holds h.lt (by simp; omega) totE
  refine (show Calls Try.prog 95 _ w _ from hcon).mono fun e w' ⟨he, q, os, hw⟩ => ⟨he, ?_⟩
  subst hw
  have h1 := (h.put (q := q) (ys := sortE es) (by rw [sortE_length])).grow_ os
  have hz : (putRowK cellsX 2 (Sort.ahead w q) g 0 (sortE es).toArray).heap.size = w.heap.size := by simp [putRowK, putRow, mapBlock, Sort.ahead]
  exact ⟨h1, below_grow (Lib.below_putRow (Below.refl _ _) h.1) (Nat.le_trans hB (Nat.le_of_eq hz.symm)) os⟩
theorem sort_none (A : Option Addr) (c : Nat) (fv : Value) (w : World) :
    Calls Try.prog 95 #[.slice A 0 c, fv] w fun e w' => e = .returned (.tuple #[]) ∧ w' = w :=
  AnyF.slices_SortFunc_none { Try.sortE with } A c fv w
end Go.Proofs.Ytinpiodfpnbllaa

/- Lists of entries compacted and pruned step by step, in plain words. -/
namespace Go.Proofs.Ytinpiodfpnbllaa
set_option linter.unusedVariables false

def lastR : Int → List Ent → Int
  | p, [] => p
  | _, z :: l => lastR z.1 l
theorem lastR_snoc (p : Int) (l : List Ent) (z : Ent) : lastR p (l ++ [z]) = z.1 := by
  induction l generalizing p with
  | nil => rfl
  | cons a l ih => exact ih a.1
theorem compGo_snoc (p : Int) (l : List Ent) (y : Ent) : compGo p (l ++ [y]) = compGo p l ++ (if y.1 = lastR p l then [] else [y]) := by
  induction l generalizing p with
  | nil => rfl
  | cons z l ih =>
    simp only [List.cons_append, compGo, lastR]
    by_cases h : z.1 = p
    · rw [if_pos h, if_pos h, ih p]; subst h; cases l <;> rfl
    · rw [if_neg h, if_neg h, ih z.1]; rfl
theorem compE_snoc (l : List Ent) (z y : Ent) : compE (l ++ [z] ++ [y]) = compE (l ++ [z]) ++ (if y.1 = z.1 then [] else [y]) := by
  cases l with
  | nil => simp [compE, compGo]
  | cons a l =>
    simp only [List.cons_append, compE]
    rw [compGo_snoc, lastR_snoc]
theorem take_last {es : List Ent} {i : Nat} (hi : i < es.length) : es.take (i + 1) = es.take i ++ [es[i]] := by rw [List.take_succ_eq_append_getElem hi]
theorem compE_step {es : List Ent} {i : Nat} (hi : i + 1 < es.length) : compE (es.take (i + 1 + 1)) = compE (es.take (i + 1)) ++ (if es[i + 1].1 = es[i].1 then [] else [es[i + 1]]) := by
  rw [take_last hi, take_last (show i < es.length by omega), compE_snoc]
theorem compE_same {es : List Ent} {i : Nat} (hi : i + 1 < es.length) (h : es[i + 1].1 = es[i].1) : compE (es.take (i + 1 + 1)) = compE (es.take (i + 1)) := by rw [compE_step hi, if_pos h, List.append_nil]
theorem compE_new {es : List Ent} {i : Nat} (hi : i + 1 < es.length) (h : ¬ es[i + 1].1 = es[i].1) : compE (es.take (i + 1 + 1)) = compE (es.take (i + 1)) ++ [es[i + 1]] := by rw [compE_step hi, if_neg h]
theorem compE_one {es : List Ent} (h : 1 ≤ es.length) : compE (es.take 1) = es.take 1 := by
  cases es with
  | nil => simp at h
  | cons x es => rfl
theorem compE_short {es : List Ent} (h : es.length < 2) : compE es = es := by
  match es, h with
  | [], _ => rfl
  | [x], _ => rfl
theorem pruneS_step {es : List Ent} {e : Int} {i : Nat} (hi : i < es.length) : pruneS (es.take (i + 1)) e = pruneS (es.take i) e ++ (if e ≤ es[i].2 then [es[i]] else []) := by
  rw [take_last hi]
  unfold pruneS
  rw [List.filter_append]
  congr 1
  by_cases h : e ≤ es[i].2
  · rw [if_pos h]; simp [h]
  · rw [if_neg h]; simp [h]
/-- What stands in the block: what was kept, then the rest as it was. -/
def partE (pre es : List Ent) : List Ent := pre ++ es.drop pre.length
theorem partE_length {pre es : List Ent} (h : pre.length ≤ es.length) : (partE pre es).length = es.length := by
  unfold partE; rw [List.length_append, List.length_drop]; omega
theorem partE_get {pre es : List Ent} {j : Nat} (h : pre.length ≤ j) (hj : j < es.length) : (partE pre es)[j]? = some es[j] := by
  unfold partE
  rw [List.getElem?_append_right h, List.getElem?_drop, show pre.length + (j - pre.length) = j from by omega, List.getElem?_eq_getElem hj]
theorem partE_set {pre es : List Ent} (x : Ent) (h : pre.length < es.length) : (partE pre es).set pre.length x = partE (pre ++ [x]) es := by
  unfold partE
  rw [List.set_append_right _ _ (Nat.le_refl _), Nat.sub_self, List.drop_eq_getElem_cons h, List.set_cons_zero, List.length_append, List.append_assoc]
  rfl
theorem partE_take {pre es : List Ent} : (partE pre es).take pre.length = pre := by unfold partE; rw [List.take_left']; rfl
theorem partE_take_self {es : List Ent} {k : Nat} (h : k ≤ es.length) : partE (es.take k) es = es := by
  unfold partE
  rw [List.length_take, show min k es.length = k from by omega, List.take_append_drop]
end Go.Proofs.Ytinpiodfpnbllaa
