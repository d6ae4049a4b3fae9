/-
  A region that draws, in a round of a range over a function: from the plain calculus.
-/
import Derived.Test.YtphaojdfeojpeaaBackward
import Derived.Deep.RegionHeld3
namespace Go.Proofs.Ytphaojdfeojpeaa
open Go.RowKit Go.Shelf
set_option linter.unusedVariables false

def noDefer (o : Oper) : Bool := match o.op with | .defer _ => false | _ => true
theorem noDefer_of {ops : Array Oper} {i : Nat} {o : Oper} (h : ops.toList.all noDefer = true) (ho : ops[i]? = some o) : ∀ c, o.op ≠ .defer c := by
  intro c e
  have hm : o ∈ ops.toList := by
    rw [← Array.getElem?_toList] at ho
    exact List.mem_of_getElem? ho
  have := List.all_eq_true.1 h o hm
  simp [noDefer, e] at this
theorem rows_wide {n : Nat} {P : Program} {row : String} {args : Array Value} {w : World} {R : Value → World → Prop} (h : Rows P row args w R) : RowsIn Fence.wide n P row args w R := by
  intro c cs _
  obtain ⟨v, w', r, s⟩ := h c cs
  exact ⟨v, w', r, stepsIn_wide.2 s⟩
theorem any_round {P : Program} {F : Fence} {n l : Nat} {ops : Array Oper} {Q : Exit → Act → World → Prop} {md : Region.Mode}
    (hc : ∀ (f : FuncId) (args : Array Value) (w : World) (R : Ending → World → Prop) (n : Nat), Calls P f args w R → CallsIn F n P f args w R)
    (hr : ∀ (row : String) (args : Array Value) (w : World) (R : Value → World → Prop) (n : Nat), Rows P row args w R → RowsIn F n P row args w R)
    (hd : F.depth.isSome = true → 1 ≤ n) (hf : ∀ f, F.fn f) (hnd : ops.toList.all noDefer = true) (hQ : ¬ LetsOut Q) :
    ∀ (fuel : Nat) (listed : Array Bool) (a : Act) (w : World), wpAny P md ops Q fuel listed a w → wpAnyIn (F.inRound l) n P md ops Q fuel listed a w
  | 0, _, _, _, h => h
  | fuel + 1, listed, a, w, h => ⟨h.1, fun i hi => by
    have h2 := h.2 i hi
    unfold wpOp at h2
    unfold wpOpIn
    split
    · rename_i ho
      simp only [ho] at h2
      exact any_round hc hr hd hf hnd hQ fuel _ _ _ h2
    · rename_i o ho
      simp only [ho] at h2
      split
      · rename_i hw
        simp only [hw, if_true] at h2
        rcases h2 with h2 | h2
        · refine ⟨fun f _ => hf f, ?_⟩
          show o.uponIn _ n P a _ Q ((o.semAt (some l) a.eval).run P w)
          rw [Oper.semAt_some l a.eval o (noDefer_of hnd ho)]
          unfold Oper.wp at h2
          generalize (execOp a.eval o).run P w = r at *
          cases r with
          | ok x w' =>
            cases x <;> simp only [Oper.upon, Oper.uponIn] at h2 ⊢ <;>
              first
                | exact any_round hc hr hd hf hnd hQ fuel _ _ _ h2
                | exact ⟨hd, CallsIn.inRound l ((hc _ _ _ _ _ h2).mono (fun e w'' he => by cases e <;> first | exact any_round hc hr hd hf hnd hQ fuel _ _ _ he | exact he))⟩
                | exact ⟨hd, RowsIn.mono (hr _ _ _ _ _ h2) (fun _ _ he => any_round hc hr hd hf hnd hQ fuel _ _ _ he)⟩
                | exact h2.elim
          | halt x w' => cases x <;> simp only [Oper.upon, Oper.uponIn] at h2 ⊢ <;> first | exact h2 | exact h2.elim
        · exact absurd h2.2 hQ
      · rename_i hw
        simp only [hw] at h2
        exact ⟨fun f _ => hf f, any_round hc hr hd hf hnd hQ fuel _ _ _ h2⟩⟩
end Go.Proofs.Ytphaojdfeojpeaa
