/-
  A recording, made of its parts.
-/
import Derived.Test.YtinpiodfpnbllaaHeldKit
import Derived.Test.YtinpiodfpnbllaaRecPlain
import Derived.Great.BuildSlice
namespace Go.Proofs.Ytinpiodfpnbllaa
open Go.RowKit
set_option linter.unusedVariables false

theorem fill_step (place : Nat → Option (Nat × Nat)) (cells : Array Value) (i off size : Nat) (v : Value) (vs : List Value) (rest : List (Nat × Value)) (hp : place i = some (off, size)) (hv : v.cells = vs.toArray) (hs : vs.length = size) (hf : off + size ≤ cells.size) :
    Instr.fill place cells ((i, v) :: rest) = Instr.fill place (cells.toList.take off ++ (vs ++ cells.toList.drop (off + size))).toArray rest := by
  rw [Instr.fill, hp]
  simp only [hv, List.size_toArray]
  rw [if_neg (by simp [hs]; omega)]
  congr 1
  have e := Great.foldl_set off vs 0 cells
  rw [← Array.foldl_toList, Array.toList_zipIdx]
  apply Array.ext_getElem?
  intro k
  rw [e.2 k]
  simp only [List.getElem?_toArray, List.getElem?_append, List.length_take, Array.length_toList, List.getElem?_take, List.getElem?_drop, Array.getElem?_toList]
  by_cases h1 : k < off
  · rw [if_neg (by omega), if_pos (by omega), if_pos h1]
  · rw [if_neg (show ¬ k < min off cells.size by omega)]
    rw [show min off cells.size = off from by omega]
    by_cases h2 : k - off < vs.length
    · rw [if_pos (by omega), if_pos h2, Nat.add_zero]
    · rw [if_neg (by omega), if_neg h2, show off + size + (k - off - vs.length) = k from by omega]
theorem built_rec (x c : List UInt8) (A : Option Addr) (n cap : Nat) (hx : x.length = 16) (hc : c.length = 16) :
    Try.prog.built 26 [(0, .agg (cellsB x).toArray), (1, .agg (cellsB c).toArray), (2, .slice A n cap)] = some (recC x c A n cap).toArray := by
  have hxl : (cellsB x).length = 16 := by rw [cellsB_length, hx]
  have hcl : (cellsB c).length = 16 := by rw [cellsB_length, hc]
  have e : Try.prog.built 26 [(0, .agg (cellsB x).toArray), (1, .agg (cellsB c).toArray), (2, .slice A n cap)] = Instr.fill ((#[(0, 16), (16, 16), (32, 1)] : Array (Nat × Nat))[·]?) (recC zeroK zeroK none 0 0).toArray [(0, .agg (cellsB x).toArray), (1, .agg (cellsB c).toArray), (2, .slice A n cap)] := by kernel_rfl
  rw [e]
  obtain ⟨z, hz', hz⟩ : ∃ z : Array Value, (recC zeroK zeroK none 0 0).toArray = z ∧ z.size = 33 := ⟨_, rfl, rfl⟩
  rw [hz']
  rw [fill_step _ z 0 0 16 _ (cellsB x) _ rfl rfl hxl (by omega)]
  have s1 : (z.toList.take 0 ++ (cellsB x ++ z.toList.drop (0 + 16))).length = 33 := by simp [hxl, hz]
  rw [fill_step _ _ 1 16 16 _ (cellsB c) _ rfl rfl hcl (by rw [List.size_toArray, s1]; omega)]
  have s2 : (((z.toList.take 0 ++ (cellsB x ++ z.toList.drop (0 + 16))).toArray.toList.take 16 ++ (cellsB c ++ (z.toList.take 0 ++ (cellsB x ++ z.toList.drop (0 + 16))).toArray.toList.drop (16 + 16)))).length = 33 := by simp [hxl, hcl, hz]
  rw [fill_step _ _ 2 32 1 _ [.slice A n cap] _ rfl rfl rfl (by rw [List.size_toArray, s2]; omega)]
  rw [Instr.fill]
  refine congrArg (fun l => some (List.toArray l)) ?_
  simp [List.take_append, List.drop_append, List.take_of_length_le, List.drop_of_length_le, hxl, hcl, hz, recC]

theorem free_blk {w : World} {g : Nat} (hf : rowFree w g = true) : ∃ t, Blk w g t (rowAt w g) := by
  unfold rowFree at hf
  unfold Blk rowAt
  split at hf
  · rename_i cs t fr he
    have : fr = (0, 0) := by simpa using hf
    subst this
    exact ⟨t, by rw [he]⟩
  · cases hf
theorem run_storeCells_rec {P : Program} (w : World) (g : Nat) (l : List Value) (hl : l.length = 33) (h1 : l.all (·.oneCell') = true) (h : (rowAt w g).size = 33) (hf : rowFree w g = true) : (storeCells ⟨g, 0, none⟩ l 0).run P w = .ok () (w.setRow g l.toArray) := by
  obtain ⟨t, he⟩ := free_blk hf
  exact run_storeCells_from (P := P) g t l 0 _ w he (by omega) (fun v hv => List.all_eq_true.1 h1 v hv)
theorem zero33 : (#[.int .u8 0, .int .u8 0, .int .u8 0, .int .u8 0, .int .u8 0, .int .u8 0, .int .u8 0, .int .u8 0, .int .u8 0, .int .u8 0, .int .u8 0, .int .u8 0, .int .u8 0, .int .u8 0, .int .u8 0, .int .u8 0, .int .u8 0, .int .u8 0, .int .u8 0, .int .u8 0, .int .u8 0, .int .u8 0, .int .u8 0, .int .u8 0, .int .u8 0, .int .u8 0, .int .u8 0, .int .u8 0, .int .u8 0, .int .u8 0, .int .u8 0, .int .u8 0, .slice none 0 0] : Array Value) = (recC zeroK zeroK none 0 0).toArray := rfl
theorem recC_all (x c : List UInt8) (A : Option Addr) (n cap : Nat) : (recC x c A n cap).all (·.oneCell') = true := by
  rw [List.all_eq_true]
  intro v hv
  rw [recC, List.mem_append, List.mem_append] at hv
  rcases hv with hv | hv | hv
  · exact cells_one x v hv
  · exact cells_one c v hv
  · rw [List.mem_singleton] at hv; subst hv; rfl
section
variable {P : Program} {md : Region.Mode} {ops : Array Oper} {Q : Exit → Act → World → Prop} {S : World → Prop} {fuel : Nat} {listed : Array Bool} {a : Act} {w : World}
/-- A value is made of its parts. -/
theorem hd_build (i : Nat) {oi : Oper} (t : TypeId) (parts : Array (Nat × Operand)) (vs : List (Nat × Value)) (cells : Array Value) (hi : ops[i]? = some oi) (ho : oi.op = .build t parts) (hg : oi.guard = none)
    (hs : Region.noSelect ops = true) (hf : Region.free md ops listed i = true) (hr : (Region.ready md ops listed).contains i = true) (hQ : ∀ c a w, Q (.panic c) (a.put oi.dst (.agg cells)) w → Q (.panic c) a w)
    (hv : (parts.map fun (i, x) => (i, a.eval x)).toList = vs) (hb : P.built t vs = some cells) (hw : S w)
    (h : wpAnyH P md ops Q S fuel (listed.setIfInBounds i true) (a.put oi.dst (.agg cells)) w) : wpAnyH P md ops Q S (fuel + 1) listed a w :=
  hd_take i (.agg cells) hi hg hs hf hr hQ (fun w _ => by
    unfold execOp
    rw [ho]
    simp only [Sem.run_bind, run_build w t _ cells (by rw [hv]; exact hb), Result.andThen_ok]
    rfl) hw h
theorem hd_build3 (i : Nat) {oi : Oper} (t : TypeId) (v0 v1 v2 : Value) (cells : Array Value) (x0 x1 x2 : Operand) (hi : ops[i]? = some oi) (ho : oi.op = .build t #[(0, x0), (1, x1), (2, x2)]) (hg : oi.guard = none)
    (hs : Region.noSelect ops = true) (hf : Region.free md ops listed i = true) (hr : (Region.ready md ops listed).contains i = true) (hQ : ∀ c a w, Q (.panic c) (a.put oi.dst (.agg cells)) w → Q (.panic c) a w)
    (h0 : a.eval x0 = v0) (h1 : a.eval x1 = v1) (h2 : a.eval x2 = v2) (hb : P.built t [(0, v0), (1, v1), (2, v2)] = some cells) (hw : S w)
    (h : wpAnyH P md ops Q S fuel (listed.setIfInBounds i true) (a.put oi.dst (.agg cells)) w) : wpAnyH P md ops Q S (fuel + 1) listed a w :=
  hd_build i t _ _ cells hi ho hg hs hf hr hQ (by simp [h0, h1, h2]) hb hw h
end
theorem OB.low {B : Nat} {w : World} {A : Option Addr} {c : Nat} {l : List UInt8} (h : OB B w A c l) {g : Nat} (hg : g < B) (cs : Array Value) : OB B (w.setRow g cs) A c l :=
  ⟨h.1, h.2.elim Or.inl (fun ⟨g', cap, cur, hv, hB, hh, r⟩ => Or.inr ⟨g', cap, cur, hv, hB, by rw [← hh]; exact setRow_other w g g' cs (by omega), r⟩)⟩
end Go.Proofs.Ytinpiodfpnbllaa
