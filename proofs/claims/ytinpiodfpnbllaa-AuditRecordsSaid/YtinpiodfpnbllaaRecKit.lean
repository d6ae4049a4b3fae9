/-
  Recordings as cells; the load of a field of 16 bytes.
-/
import Derived.Test.YtinpiodfpnbllaaQuietRow
import Derived.Test.YtinpiodfpnbllaaMadeBytes
import Derived.Deep.MidRow
namespace Go.Proofs.Ytinpiodfpnbllaa
open Go.RowKit
set_option linter.unusedVariables false

theorem quiet_mid_as {P : Program} {C : World → Prop} {a : Act} {K : Act → Prop} {dst : Option Tmp} {ty : TypeId} {x : Operand} {type : TypeId} {pos : String} {after : Array Edge} {guard : Option (Nat × Bool)}
    (g o : Nat) (hx : a.eval x = .pointer (some ⟨g, o, none⟩)) (cs : List Value) (d : TypeDesc) (hg : ∀ w, C w → w.rangeAt g o cs)
    (hu : P.underlying ty = some d) (hd : d.isRow = true) (hi : (P.info? ty).map (·.size) = some cs.length)
    (h : Oper.quiet P (Oper.mk dst (.move (.const (.agg cs.toArray))) type pos after guard) a C K) : Oper.quiet P (Oper.mk dst (.load ty x) type pos after guard) a C K := by
  obtain ⟨v, h1, h2⟩ := h
  refine ⟨v, fun w hw => ?_, h2⟩
  have e := h1 w hw
  unfold Oper.quietAt at e ⊢
  rw [BigFrame.run_move (.const (.agg cs.toArray)) rfl] at e
  have hv : Value.agg cs.toArray = v := e.2
  subst hv
  unfold execOp
  simp only [hx, run_loadAt_mid w g o ty cs d (hg w hw) hu hd hi, Sem.run_bind, Sem.run_pure, Result.andThen_ok]
  exact ⟨rfl, rfl⟩

/-- The cells of a recording: the box, the check, the data. -/
def recC (x c : List UInt8) (A : Option Addr) (n cap : Nat) : List Value := cellsB x ++ (cellsB c ++ [.slice A n cap])
theorem recC_length {x c : List UInt8} (A : Option Addr) (n cap : Nat) (hx : x.length = 16) (hc : c.length = 16) : (recC x c A n cap).length = 33 := by simp [recC, cellsB, hx, hc]
theorem rec_info {x c : List UInt8} (A : Option Addr) (n cap : Nat) (hx : x.length = 16) (hc : c.length = 16) : (Try.prog.info? 26).map (·.size) = some (recC x c A n cap).toArray.size := by
  rw [show (Try.prog.info? 26).map (·.size) = some 33 from by kernel_rfl]
  simp [recC, cellsB, hx, hc]
theorem key_info {x : List UInt8} (hx : x.length = 16) : (Try.prog.info? 23).map (·.size) = some (cellsB x).length := by
  rw [show (Try.prog.info? 23).map (·.size) = some 16 from by kernel_rfl, cellsB_length, hx]
theorem rec_box {w : World} {g : Nat} {t : TypeId} {x c : List UInt8} {A : Option Addr} {n cap : Nat} (h : Blk w g t (recC x c A n cap).toArray) : w.rangeAt g 0 (cellsB x) := fun j v hv => by
  rw [Nat.zero_add, h.cell j, List.getElem?_toArray, recC, List.getElem?_append_left ?_, hv]
  rcases Nat.lt_or_ge j (cellsB x).length with h' | h'
  · exact h'
  · rw [List.getElem?_eq_none h'] at hv; cases hv
theorem rec_check {w : World} {g : Nat} {t : TypeId} {x c : List UInt8} {A : Option Addr} {n cap : Nat} (h : Blk w g t (recC x c A n cap).toArray) (hx : x.length = 16) : w.rangeAt g 16 (cellsB c) := fun j v hv => by
  have hj : j < (cellsB c).length := by
    rcases Nat.lt_or_ge j (cellsB c).length with h' | h'
    · exact h'
    · rw [List.getElem?_eq_none h'] at hv; cases hv
  have hl : (cellsB x).length = 16 := by rw [cellsB_length, hx]
  rw [h.cell (16 + j), List.getElem?_toArray, recC, List.getElem?_append_right (by omega), hl, Nat.add_sub_cancel_left, List.getElem?_append_left hj, hv]
theorem rec_data {w : World} {g : Nat} {t : TypeId} {x c : List UInt8} {A : Option Addr} {n cap : Nat} (h : Blk w g t (recC x c A n cap).toArray) (hx : x.length = 16) (hc : c.length = 16) : w.cell? ⟨g, 32, none⟩ = some (.slice A n cap) := by
  have hl : (cellsB x).length = 16 := by rw [cellsB_length, hx]
  have hl2 : (cellsB c).length = 16 := by rw [cellsB_length, hc]
  rw [h.cell 32, List.getElem?_toArray, recC, List.getElem?_append_right (by omega), hl, List.getElem?_append_right (by omega), hl2]
  rfl
end Go.Proofs.Ytinpiodfpnbllaa
